/- Parts. No condition. -/
import Derived.Test.YtdkmoemdipgikaaGreatDoorKAC
import Derived.LoopN
set_option linter.unusedSimpArgs false
set_option linter.unusedVariables false
namespace Go.Proofs.YtdkmoemdipgikaaGreatDoor
open Go.RowKit
inductive AX where
 |normal
 |exit (id:Nat)
 |ret
 deriving DecidableEq
def AX.ex:AX->Exit
 |.normal => .normal
 |.exit id => .exit id
 |.ret => .ret
structure fP (n0:Nat)(R R':PH)(γ γ':List Gh)(L L':List Ob):Prop where
 lo:n0<=L.length
 lo':n0<=L'.length
 mv:Mv R R' (γ.take n0) γ' (L.take n0) L'
theorem Mv.cutL {n0:Nat}{R R':PH}{γ γ':List Gh}{L L':List Ob}(h:Mv R R' γ γ' L L'):Mv R R' (γ.take n0) γ' (L.take n0) L':=by
 refine⟨h.sub,by simp;have:=h.len;omega,fun t n k hlt e=>?_,fun t ver es k hlt e=>?_,fun id b e=>?_⟩
 ·have hlt':t<n0/\t<L.length:=by rw[anm]at hlt;omega
  obtain⟨m,a,b,c⟩:=h.tok t n k hlt'.2 e;exact⟨m,by rw[am0,if_pos hlt'.1];exact a,b,fun q=>by rw[am0,if_pos hlt'.1];exact c q⟩
 ·have hlt':t<n0/\t<L.length:=by rw[anm]at hlt;omega
  obtain⟨v0,m,a,b,c⟩:=h.row t ver es k hlt'.2 e;exact⟨v0,m,by rw[am0,if_pos hlt'.1];exact a,b,fun q=>⟨(c q).1,by rw[am0,if_pos hlt'.1];exact(c q).2⟩⟩
 ·rw[am0]at e
  split at e
  ·exact h.ptr id b e
  ·cases e
theorem Mv.cutR {n:Nat}{R R':PH}{γ γ':List Gh}{L L':List Ob}(h:Mv R R' γ γ' L L')(hg:γ.length=L.length)(hn:L.length<=n):Mv R R' γ (γ'.take n) L (L'.take n):=by
 refine⟨h.sub,by simp;have:=h.len;omega,fun t m k hlt e=>?_,fun t ver es k hlt e=>?_,fun id b e=>?_⟩
 ·rw[am0,if_pos m0]at e
  rw[am0,if_pos m0];exact h.tok t m k hlt e
 ·rw[am0,if_pos m0]at e
  rw[am0,if_pos m0];exact h.row t ver es k hlt e
 ·have:=(amw.1 e).1
  rw[am0,if_pos m0];exact h.ptr id b e
theorem fP.of {n0:Nat}{R R':PH}{γ γ':List Gh}{L L':List Ob}(hn:n0<=L.length)(h:Mv R R' γ γ' L L'):fP n0 R R' γ γ' L L':=⟨hn,Nat.le_trans hn h.len,h.cutL⟩
theorem fP.trans {n0:Nat}{R R' R'':PH}{γ γ' γ'':List Gh}{L L' L'':List Ob}(hg:γ.length=L.length)(h:fP n0 R R' γ γ' L L')(g:fP n0 R' R'' γ' γ'' L' L''):fP n0 R R'' γ γ'' L L'':=by
 refine⟨h.lo,g.lo',Mv.trans (h.mv.cutR (n:=n0) (by simp[hg]) m8) g.mv⟩
theorem fP.cut {n0:Nat}{R:PH}{γ:List Gh}{L G:List Ob}(hg:γ.length=(L++G).length)(hn:n0<=L.length):fP n0 R R γ (γ.take L.length) (L++G) L:=by
 refine⟨by simp;omega,hn,?_⟩;have:=(Mv.refl (R:=R) (γ:=γ) (L:=L++G)).cutL (n0:=n0);have:=this.cutR (n:=L.length) (by simp at hg ⊢;omega) m8;simpa using this
def sf (N n0:Nat)(B:Nat->Prop)(Q:AX->Tm->List Ob->Prop)(R:PH)(w:World)(γ:List Gh)(L:List Ob)(e:Exit)(a':Act)(w':World):Prop :=
 ∃ x T' L' R' γ',e=x.ex/\Q x T' L'/\Inv B R' γ' L' w'/\cg N R' γ' L' T' a'/\Ext B R R' w w'/\fP n0 R R' γ γ' L L'
def Aw (P:Program)(N n0:Nat)(c:Code)(Q:AX->Tm->List Ob->Prop)(T:Tm)(L:List Ob):Prop :=
 n0<=L.length ->∀ B R γ w a,Inv B R γ L w->cg N R γ L T a->c.wp P (sf N n0 B Q R w γ L) a w
@[reducible] def AX.then (A:Tm->List Ob->Prop)(Q:AX->Tm->List Ob->Prop):AX->Tm->List Ob->Prop
 |.normal,T,L=>A T L
 |e,T,L=>Q e T L
@[reducible] def AX.inBlock (id:Nat)(Q:AX->Tm->List Ob->Prop):AX->Tm->List Ob->Prop
 |.exit j,T,L=>if j=id then Q .normal T L else Q (.exit j) T L
 |e,T,L=>Q e T L
section
variable {P:Program} {ti:TI} {N n0:Nat} {Q:AX->Tm->List Ob->Prop} {T:Tm} {L:List Ob}
theorem Aw.mono {c:Code}{Q':AX->Tm->List Ob->Prop}(h:Aw P N n0 c Q T L)(hq:∀ x T L,Q x T L->Q' x T L):Aw P N n0 c Q' T L :=
 fun hn B R γ w a hi hT=>wp_mono (h hn B R γ w a hi hT) fun _ _ _ ⟨x,T',L',R',γ',e,q,r⟩=>⟨x,T',L',R',γ',e,hq _ _ _ q,r⟩
theorem sf.ext {B:Nat->Prop}{R R1:PH}{w w1:World}{γ γ1:List Gh}{L1:List Ob}{e:Exit}{a':Act}{w':World}(h:sf N n0 B Q R1 w1 γ1 L1 e a' w')(he:Ext B R R1 w w1)(hg:γ.length=L.length)(hm:fP n0 R R1 γ γ1 L L1):sf N n0 B Q R w γ L e a' w' :=
 let ⟨x,T',L',R',γ',h1,h2,h3,h4,h5,h6⟩:=h;⟨x,T',L',R',γ',h1,h2,h3,h4,he.trans h5,hm.trans hg h6⟩
theorem aw_skip (h:Q .normal T L):Aw P N n0 .skip Q T L:=fun hn _ R γ w a hi hT=>wp_skip ⟨.normal,T,L,R,γ,rfl,h,hi,hT,Ext.refl _ _ _,fP.of hn Mv.refl⟩
theorem aw_ret (h:Q .ret T L):Aw P N n0 .ret Q T L:=fun hn _ R γ w a hi hT=>wp_ret ⟨.ret,T,L,R,γ,rfl,h,hi,hT,Ext.refl _ _ _,fP.of hn Mv.refl⟩
theorem aw_exit {id:Nat}(h:Q (.exit id) T L):Aw P N n0 (.exit id) Q T L:=fun hn _ R γ w a hi hT=>wp_exit ⟨.exit id,T,L,R,γ,rfl,h,hi,hT,Ext.refl _ _ _,fP.of hn Mv.refl⟩
theorem aw_seq {x y:Code}(h:Aw P N n0 x (AX.then (Aw P N n0 y Q) Q) T L):Aw P N n0 (.seq x y) Q T L:=by
 intro hn B R γ w a hi hT;refine wp_seq (wp_mono (h hn B R γ w a hi hT) ?_);rintro e a1 w1 ⟨x,T1,L1,R1,γ1,rfl,q,i1,t1,e1,m1⟩
 cases x with
 |normal=>exact wp_mono (q m1.lo' B R1 γ1 w1 a1 i1 t1) fun _ _ _ hh=>hh.ext e1 hi.len m1
 |exit id=>exact⟨.exit id,T1,L1,R1,γ1,rfl,q,i1,t1,e1,m1⟩
 |ret=>exact⟨.ret,T1,L1,R1,γ1,rfl,q,i1,t1,e1,m1⟩
theorem aw_cond {c:Operand}{x y:Code}{b:Bool}(hc:look T c=some (.one (.c (.bool b))))(h1:b=true->Aw P N n0 x Q T L)(h2:b=false->Aw P N n0 y Q T L):Aw P N n0 (.cond c x y) Q T L:=by
 intro hn B R γ w a hi hT;have hv:=fK hT hc;have he:a.eval c = .bool b:=by
  generalize a.eval c=v at hv
  cases hv;rfl
 exact wp_cond_split he (fun e=>h1 e hn B R γ w a hi hT) (fun e=>h2 e hn B R γ w a hi hT)
theorem aw_block {id:Nat}{c:Code}(h:Aw P N n0 c (AX.inBlock id Q) T L):Aw P N n0 (.block id c) Q T L:=by
 intro hn B R γ w a hi hT;refine wp_block (wp_mono (h hn B R γ w a hi hT) ?_);rintro e a1 w1 ⟨x,T1,L1,R1,γ1,rfl,q,i1,t1,e1,m1⟩
 cases x with
 |normal=>exact⟨.normal,T1,L1,R1,γ1,rfl,q,i1,t1,e1,m1⟩
 |ret=>exact⟨.ret,T1,L1,R1,γ1,rfl,q,i1,t1,e1,m1⟩
 |exit j =>
  simp only[AX.inBlock]at q;by_cases hj:j=id
  ·subst hj
   rw[if_pos rfl]at q;show Exit.inBlock j _ (.exit j) a1 w1;simp only[Exit.inBlock,if_true];exact⟨.normal,T1,L1,R1,γ1,rfl,q,i1,t1,e1,m1⟩
  ·rw[if_neg hj]at q
   show Exit.inBlock id _ (.exit j) a1 w1;simp only[Exit.inBlock,if_neg hj];exact⟨.exit j,T1,L1,R1,γ1,rfl,q,i1,t1,e1,m1⟩
theorem B4 {l:List Oper}{ds:List (Option Tmp)}(hds:l.map (·.dst)=ds)(j:Nat):(l.toArray[j]?).map (·.dst)=ds[j]?:=by rw[<- hds];simp
theorem aw_region (hti:TIok P ti){id:Nat}{l:List Oper}(ds:List (Option Tmp))(hds:l.map (·.dst)=ds)(h:aB P ti N ds (Q .normal) l T L):Aw P N n0 (.region id l.toArray false) Q T L:=by
 intro hn B R γ w a hi hT;refine wp_region_lit (po hti (B4 hds) l R γ L T a w h hi hT ?_);intro T' L' R' γ' w' a' hk h1 h2 h3 h4;exact⟨.normal,T',L',R',γ',rfl,hk,h1,h2,h3,fP.of hn h4⟩
structure Fits (T':Tm)(L':List Ob)(T:Tm)(L:List Ob):Prop where
 slots:∀ p∈T,T'.lookup p.1=some p.2
 pre:∃ G,L'=L++G
 below:∀ p∈T,p.2.below L.length
 objs:∀ x∈L,x.below L.length
theorem SV.cut {R:PH}{γ:List Gh}{L G:List Ob}(hl:γ.length=(L++G).length){x:SV}{v:Value}(h:x.rep R γ (L++G) v)(hb:x.below L.length):x.rep R (γ.take L.length) L v:=by
 cases x with
 |c y=>exact h
 |emp=>exact h
 |own es t =>
  obtain⟨h1,_,h2⟩:=h;have ht:t<L.length:=hb;refine⟨h1,ht,fun n k e0=>?_⟩;obtain⟨h3,h4,h5⟩:=h2 n k (by rw[amK ht];exact e0);refine⟨h3,h4,fun e=>?_⟩;obtain⟨g,g1,g2⟩:=h5 e;exact⟨g,by rw[am0,if_pos ht];exact g1,g2⟩
 |ptr id off =>
  obtain⟨b,h1,h2⟩:=h;have ht:id<L.length:=hb;exact⟨b,h1,by rw[am0,if_pos ht];exact h2⟩
 |sl id ver lo n =>
  obtain⟨h0,_,h2⟩:=h;have ht:id<L.length:=hb;refine⟨h0,ht,fun ver' es k e0=>?_⟩;rw[am0,if_pos ht];exact h2 ver' es k (by rw[amK ht];exact e0)
 |ep id ver i o =>
  obtain⟨h0,_,h2⟩:=h;have ht:id<L.length:=hb;refine⟨h0,ht,fun ver' es k e0=>?_⟩;rw[am0,if_pos ht];exact h2 ver' es k (by rw[amK ht];exact e0)
 |mp id =>
  obtain⟨b,h1,h2⟩:=h;have ht:id<L.length:=hb;exact⟨b,h1,by rw[am0,if_pos ht];exact h2⟩
 |clo f caps =>
  obtain⟨vs,h1,h2,h3⟩:=h;refine⟨vs,h1,h2,fun j u x hu hx=>?_⟩;have hr:=h3 j u x hu hx;have hbx:x.below L.length:=hb x (amC hx)
  cases x with
  |c y=>exact hr
  |ptr id off =>
   obtain⟨b,g1,g2⟩:=hr;have ht:id<L.length:=hbx;exact⟨b,g1,by rw[am0,if_pos ht];exact g2⟩
theorem AV.cut {R:PH}{γ:List Gh}{L G:List Ob}(hl:γ.length=(L++G).length){x:AV}{v:Value}(h:x.rep R γ (L++G) v)(hb:x.below L.length):x.rep R (γ.take L.length) L v:=by
 cases x with
 |one x=>exact SV.cut hl h hb
 |agg xs =>
  obtain⟨vs,h1,h2,h3⟩:=h;exact⟨vs,h1,h2,fun j u x hu hx=>SV.cut hl (h3 j u x hu hx) (hb x (amC hx))⟩
 |tup ps=>exact h
 |tupS xs =>
  obtain⟨vs,h1,h2,h3⟩:=h;exact⟨vs,h1,h2,fun j u x hu hx=>SV.cut hl (h3 j u x hu hx) (hb x (amC hx))⟩
 |undef=>exact h
theorem ig:∀ {T:Tm} {t:Nat} {x:AV},T.lookup t=some x->(t,x)∈T
 |(k,y)::T,t,x,h=>by
  rw[List.lookup_cons]at h;by_cases e:t=k
  ·subst e;simp at h;subst h;exact ani ..
  ·have:(t==k)=false:=by simpa using e
   rw[this]at h;exact amU _ (ig h)
theorem Fits.sound {T':Tm}{L':List Ob}(hf:Fits T' L' T L){B:Nat->Prop}{R:PH}{γ:List Gh}{w:World}{a:Act}(hi:Inv B R γ L' w)(hT:cg N R γ L' T' a):Inv B R (γ.take L.length) L w/\cg N R (γ.take L.length) L T a:=by
 obtain⟨G,rfl⟩:=hf.pre;have hl:γ.length=(L++G).length:=hi.len;have hlen:(γ.take L.length).length=L.length:=by rw[anm,hl];simp
 have get:∀ (i:Nat) g,(γ.take L.length)[i]?=some g->i<L.length/\γ[i]?=some g:=by
  intro i g hg;rw[am0]at hg;split at hg
  ·rename_i h;exact⟨h,hg⟩
  ·cases hg
 refine⟨⟨hlen,hi.val,fun id x g hx hg=>?_,fun i j gi gj h1 h2=>hi.inj i j gi gj (get i gi h1).2 (get j gj h2).2,fun i g b hg=>hi.new i g b (get i g hg).2,hi.bsz⟩,⟨hT.size,hT.defers,fun t x h=>?_⟩⟩
 ·obtain⟨hlt,hg'⟩:=get id g hg
  have hobj:=hi.obj id x g (by rw[amK hlt];exact hx) hg';have hb:=hf.objs x (amC hx)
  match x,g,hobj,hb with
  |.box cs,.box b,⟨⟨vs,E,h1,h2,h3⟩,h4⟩,hb=>exact⟨⟨vs,E,h1,h2,fun j u x hu hx=>SV.cut hl (h3 j u x hu hx) (hb x (amC hx))⟩,h4⟩
  |.spare n k,.arr b c,hobj,_=>exact hobj
  |.spare n k,.none,hobj,_=>exact hobj
  |.row ver es k,.arr b c,⟨⟨vs,E,h1,h2,h3⟩,h4⟩,hb=>exact⟨⟨vs,E,h1,h2,fun i e j u x he hu hx=>SV.cut hl (h3 i e j u x he hu hx) (hb e (amC he) x (amC hx))⟩,h4⟩
  |.row ver es k,.none,hobj,_=>exact hobj
  |.map kvs,.box b,⟨⟨es,h1,h2,h3⟩,h4⟩,hb=>exact⟨⟨es,h1,h2,fun j e p he hp=>⟨(h3 j e p he hp).1,(h3 j e p he hp).2.1,AV.cut hl (h3 j e p he hp).2.2 (hb p (amC hp))⟩⟩,h4⟩
  |.dead,.none,hobj,_=>exact hobj
  |.dead,.box _,hobj,_=>exact hobj
 ·have hm:=ig h
  obtain⟨u,h1,h2⟩:=hT.slot t x (hf.slots (t,x) hm);exact⟨u,h1,AV.cut hl h2 (hf.below (t,x) hm)⟩
theorem Fits.mvn {T':Tm}{L':List Ob}(hf:Fits T' L' T L){B:Nat->Prop}{R:PH}{γ:List Gh}{w:World}(hi:Inv B R γ L' w)(hn:n0<=L.length):fP n0 R R γ (γ.take L.length) L' L:=by
 obtain⟨G,rfl⟩:=hf.pre;exact fP.cut hi.len hn
theorem bK {c:Code}(t k:Nat)(ht:T.lookup t=some (.one .emp))(h:Aw P N n0 c Q ((t,.one (.own [] L.length))::T) (L++[.spare 0 k])):Aw P N n0 c Q T L:=by
 intro hn B R γ w a hi hT;have hm:Mv R R γ (γ++[.none]) L (L++[.spare 0 k]):=Mv.push _ _ hi.len;refine wp_mono (h m8 B R (γ++[.none]) w a (hi.tok k) ?_) fun _ _ _ hh=>hh.ext (Ext.refl _ _ _) hi.len (fP.of hn hm)
 refine⟨hT.size,hT.defers,fun t' x hx=>?_⟩;rw[List.lookup_cons]at hx;by_cases e:t'=t
 ·subst e
  simp at hx;subst hx;obtain⟨u,h1,b,rfl⟩:=hT.slot t' _ ht;exact⟨_,h1,cO _ _ _,m5,fun n2 k2 _=>⟨m5,m5,fun _=>⟨.none,by rw[<- hi.len];simp,b,m5⟩⟩⟩
 ·have:(t'==t)=false:=by simpa using e
  rw[this]at hx;exact(hT.mv hm).slot t' x hx
theorem cK {σ:Type}{c:Code}(TT:σ->Tm)(LL:σ->List Ob)(ok:σ->Prop)(μ:σ->Nat)(s0:σ)(h0:ok s0)(hn1:∀ s,ok s->n0<=(LL s).length)(hf:Fits T L (TT s0) (LL s0))
  (round:∀ s,ok s->Aw P N n0 c (AX.then (fun T' L' =>∃ s',ok s'/\μ s'<μ s/\Fits T' L' (TT s') (LL s')) Q) (TT s) (LL s)):Aw P N n0 (.loop c) Q T L:=by
 intro hn B R0 γ0 w0 a0 hi hT;obtain⟨i1,t1⟩:=hf.sound hi hT;have key:∀ n s R γ a w,μ s<n->ok s->Inv B R γ (LL s) w->cg N R γ (LL s) (TT s) a->Ext B R0 R w0 w->fP n0 R0 R γ0 γ L (LL s)->Code.rounds P c (sf N n0 B Q R0 w0 γ0 L) n a w:=by
  intro n
  induction n with
  |zero=>intro s R γ a w h;omega
  |succ n ih =>
   intro s R γ a w hlt hok hI ht he hmv;rw[rounds_succ];refine wp_mono (round s hok (hn1 s hok) B R γ w a hI ht) ?_;rintro e a1 w1 ⟨x,T1,L1,R1,γ2,rfl,q,j1,k1,e1,m1⟩
   cases x with
   |normal =>
    obtain⟨s',ok',hlt',hfit⟩:=q;obtain⟨j2,k2⟩:=hfit.sound j1 k1;exact ih s' R1 _ a1 w1 m0 ok' j2 k2 (he.trans e1) ((hmv.trans hi.len m1).trans hi.len (hfit.mvn j1 (hn1 s' ok')))
   |exit id=>exact⟨.exit id,T1,L1,R1,γ2,rfl,q,j1,k1,he.trans e1,hmv.trans hi.len m1⟩
   |ret=>exact⟨.ret,T1,L1,R1,γ2,rfl,q,j1,k1,he.trans e1,hmv.trans hi.len m1⟩
 exact wp_loop_rounds (μ s0+1) (key _ s0 R0 _ a0 w0 m0 h0 i1 t1 (Ext.refl _ _ _) (hf.mvn hi (hn1 s0 h0)))
def vS (ti:TI)(T:Tm)(L:List Ob):ResultVar->Option (PV×Prop)
 |.tmp t=>((T.lookup t).bind AV.norm).map fun p=>(p,True)
 |.cell a t=>match T.lookup a with
  |some (.one (.ptr id off))=>match eM ti L t (.one (.ptr id off))with
   |some (v,φ)=>v.norm.map fun p=>(p,φ)
   |none=>none
  |_=>none
def qp (ti:TI)(T:Tm)(L:List Ob):List ResultVar->Option (List PV×Prop)
 |[]=>some ([],True)
 |r::rs=>match vS ti T L r,qp ti T L rs with
  |some (p,φ),some (ps,ψ)=>some (p::ps,φ/\ψ)
  |_,_=>none
def aeB:List PV->CV
 |[p] => .val p
 |ps => .tup ps
def Res (ti:TI)(rs:List ResultVar)(T:Tm)(L:List Ob)(r:CV):Prop :=
 match qp ti T L rs with
 |some (ps,φ)=>φ/\aeB ps=r
 |none=>False
def iT (tmps:Array Value):ResultVar->Sem Value
 |.tmp t=>pure (tmps.getD t Go.undef)
 |.cell ad t=>do loadVar t (<- asAddr (tmps.getD ad Go.undef))
theorem kE (fn:Func)(tmps:Array Value):results fn tmps=(do let vs <- fn.results.mapM (iT tmps);pure (if h:vs.size=1 then vs[0]else .tuple vs)):=by
 unfold results;congr
theorem FD (hti:TIok P ti){B:Nat->Prop}{R:PH}{γ:List Gh}{w:World}{a:Act}(hi:Inv B R γ L w)(hT:cg N R γ L T a){rv:ResultVar}{p:PV}{φ:Prop}(h:vS ti T L rv=some (p,φ))(hφ:φ) :
  ∃ u,(iT a.tmps rv).run P w = .ok u w/\p.rep R u:=by
 cases rv with
 |tmp t =>
  simp only[vS]at h
  cases hl:T.lookup t with
  |none=>simp[hl]at h
  |some x =>
   simp only[hl,amv]at h
   cases hn:x.norm with
   |none=>simp[hn]at h
   |some q =>
    simp only[hn,Option.map_some,Option.some.injEq,Prod.mk.injEq]at h;obtain⟨rfl,_⟩:=h;obtain⟨u,h1,h2⟩:=hT.slot t x hl;exact⟨u,by simp[iT,Array.getD_eq_getD_getElem?,h1],AV.norm_rep h2 hn⟩
 |cell ad t =>
  simp only[vS]at h;split at h
  ·rename_i id off hl
   split at h
   ·rename_i v ψ hp
    cases hn:v.norm with
    |none=>simp[hn]at h
    |some q =>
     simp only[hn,Option.map_some,Option.some.injEq,Prod.mk.injEq]at h;obtain⟨rfl,h2⟩:=h;subst h2;obtain⟨u,h1,hu⟩:=hT.slot ad _ hl;obtain⟨b,rfl,hg⟩:=hu;obtain⟨u',r1,r2⟩:=lM hti hi (va := .one (.ptr id off)) (u1 := .pointer (some ⟨b,off,none⟩)) ⟨b,rfl,hg⟩ hp hφ;refine⟨u',?_,AV.norm_rep r2 hn⟩;simp only[Instr.loadAt,Instr.sureAddr]at r1;simpa[iT,Array.getD_eq_getD_getElem?,h1,asAddr]using r1
   ·cases h
  ·cases h
theorem tZ (hti:TIok P ti){B:Nat->Prop}{R:PH}{γ:List Gh}{w:World}{a:Act}(hi:Inv B R γ L w)(hT:cg N R γ L T a):∀ {rs:List ResultVar} {ps:List PV} {φ:Prop},qp ti T L rs=some (ps,φ)->φ ->
  ∃ us:List Value,(rs.mapM (iT a.tmps)).run P w = .ok us w/\us.length=ps.length /\ ∀ (j:Nat) u p,us[j]?=some u->ps[j]?=some p->p.rep R u
 |[],ps,φ,h,_=>by
  simp only[qp,Option.some.injEq,Prod.mk.injEq]at h;obtain⟨rfl,_⟩:=h;exact⟨[],rfl,rfl,fun j u p hu=>by simp at hu⟩
 |r::rs,ps,φ,h,hφ=>by
  unfold qp at h;split at h
  ·rename_i p ψ ps' χ h1 h2
   simp only[Option.some.injEq,Prod.mk.injEq]at h;obtain⟨rfl,rfl⟩:=h;obtain⟨u,r1,r2⟩:=FD hti hi hT h1 hφ.1;obtain⟨us,s1,s2,s3⟩:=tZ hti hi hT h2 hφ.2;refine⟨u::us,?_,by simp[s2],fun j v q hv hq=>?_⟩
   ·rw[List.mapM_cons]
    simp only[Sem.run_bind,r1,Result.andThen_ok,s1,Sem.run_pure]
   ·cases j with
    |zero=>simp at hv hq;subst hv hq;exact r2
    |succ j=>exact s3 j v q (by simpa using hv) (by simpa using hq)
  ·cases h
theorem Res.sound (hti:TIok P ti){B:Nat->Prop}{R:PH}{γ:List Gh}{w:World}{a:Act}(hi:Inv B R γ L w)(hT:cg N R γ L T a){fn:Func}{r:CV}(h:Res ti fn.results.toList T L r) :
  ∃ v,(results fn a.tmps).run P w = .ok v w/\r.rep R v:=by
 unfold Res at h;split at h
 ·rename_i ps φ hp
  obtain⟨hφ,rfl⟩:=h;obtain⟨us,s1,s2,s3⟩:=tZ hti hi hT hp hφ;have hm:(fn.results.mapM (iT a.tmps)).run P w = .ok us.toArray w:=by
   rw[Array.mapM_eq_mapM_toList];simp only[Sem.run_map,s1,Result.andThen_ok]
  refine⟨if h:us.toArray.size=1 then us.toArray[0]else .tuple us.toArray,?_,?_⟩
  ·rw[kE]
   simp only[Sem.run_bind];rw[hm];rfl
  ·match us,ps,s2,s3 with
   |[u],[p],_,s3=>exact s3 0 u p rfl rfl
   |[],[],_,_=>exact⟨#[],rfl,rfl,fun j u p hu=>by simp at hu⟩
   |u1::u2::us,p1::p2::ps,s2,s3 =>
    rw[dif_neg m5];exact⟨_,rfl,by simpa using s2,fun j u p hu hp=>s3 j u p (by simpa using hu) hp⟩
 ·exact h.elim
def argT:Nat->List PV->Tm
 |_,[]=>[]
 |i,p::ps=>(i,p.av)::argT (i+1) ps
theorem kR:∀ (ps:List PV) (i t:Nat) (x:AV),(argT i ps).lookup t=some x ->∃ p,ps[t-i]?=some p/\x=p.av/\i<=t
 |[],i,t,x,h=>by simp[argT]at h
 |p::ps,i,t,x,h=>by
  rw[argT,List.lookup_cons]at h;by_cases e:t=i
  ·subst e
   simp at h;subst h;exact⟨p,m5,rfl,amM _⟩
  ·have:(t==i)=false:=by simpa using e
   rw[this]at h;obtain⟨q,h1,h2,h3⟩:=kR ps (i+1) t x h;refine⟨q,?_,h2,m0⟩;have:t-i=(t-(i+1))+1:=m0
   rw[this,List.getElem?_cons_succ];exact h1
theorem pa_ (hti : TIok P ti) {f : FuncId} {fn : Func} {c : Code} {args : List PV} {r : CV} (hf : P.funcs[f]? = some fn) (hb : fn.body = some c) (hname : (fn.name == "runtime.NumGoroutine") = false) (hN : fn.ntmps = N) (hlen : args.length <= N)
  (h:Aw P N 0 c (fun x T L=>(x = .normal\/x = .ret)/\Res ti fn.results.toList T L r) (argT 0 args) []):Pure P f args r:=by
 refine⟨⟨fn,hf,by rw[hb];rfl,hname⟩,fun R w vs hR hs hv=>?_⟩;refine calls_of_wp hf hb ?_;have hi:Inv (· <w.heap.size) R [] [] w:=⟨rfl,hR,fun id x g hx=>by simp at hx,fun i j gi gj h=>by simp at h,fun i g b h=>by simp at h,fun _ h=>h⟩;have hT:cg N R [] [] (argT 0 args) { tmps:=vs++Array.replicate (fn.ntmps-vs.size) Go.undef,defers:=[] } :=by
  refine⟨by simp;omega,rfl,fun t x ht=>?_⟩;obtain⟨p,h1,rfl,_⟩:=kR args 0 t x ht;rw[Nat.sub_zero]at h1;have hlt:t<vs.size:=by rw[hs];exact(amw.1 h1).1
  have hu:vs[t]?=some vs[t]:=amV hlt;exact⟨vs[t],by rw[Array.getElem?_append_left hlt];exact hu,PV.av_rep (hv t _ p hu h1)⟩
 refine wp_mono (h (amR _) (· <w.heap.size) R [] w _ hi hT) ?_;rintro e a' w' ⟨x,T',L',R',γ',rfl,⟨hx,hres⟩,i1,t1,e1,_⟩;obtain⟨v,h1,h2⟩:=Res.sound hti i1 t1 hres;rcases hx with rfl|rfl
 ·exact⟨t1.defers,v,h1,v,R',rfl,e1,i1.val,h2⟩
 ·exact⟨t1.defers,v,h1,v,R',rfl,e1,i1.val,h2⟩
def akm (rs:List ResultVar)(T:Tm)(L:List Ob)(es':List (List AC))(k:Nat):Prop :=
 match rs with
 |[.tmp t]=>match T.lookup t with
  |some (.one (.own es i))=>es=es'/\L[i]?=some (.spare es'.length k)
  |some (.one .emp)=>es'=[]
  |_=>False
 |_=>False
theorem Il {f : FuncId} {fn : Func} {c : Code} {args : List PV} {es es' : List (List AC)} {k : Nat} (hf : P.funcs[f]? = some fn) (hb : fn.body = some c) (hname : (fn.name == "runtime.NumGoroutine") = false) (hN : fn.ntmps = N) (hlen : args.length + 1 <= N)
  (h:Aw P N 0 c (fun x T L=>(x = .normal\/x = .ret)/\akm fn.results.toList T L es' k) ((0,.one (.own es 0))::argT 1 args) [.spare es.length k]):Ee P f es k args es':=by
 refine⟨⟨fn,hf,by rw[hb];rfl,hname⟩,fun R w v vs g hR hpv hwide hown hs hv=>?_⟩;refine calls_of_wp hf hb ?_;have hgsz:∀ b,g.block=some b->b<w.heap.size:=by
  intro b hb
  match g,hown,hb with
  |.arr b' c,⟨_,⟨vs,E,a1,_⟩,_⟩,hb=>injection hb with hb;subst hb;exact(anf.1 a1).1
 have one:∀ (j:Nat) h,[g][j]?=some h->j=0/\h=g:=by
  intro j h hh
  cases j with
  |zero=>simp at hh;exact⟨rfl,hh.symm⟩
  |succ j=>simp at hh
 have hi:Inv (fun b=>b<w.heap.size/\g.block≠some b) R [g] [.spare es.length k] w:=by
  refine⟨rfl,hR,fun id x h hx hh=>?_,fun i j gi gj h1 h2 hne=>?_,fun i h b hh hb=>?_,fun _ h=>h.1⟩
  ·obtain⟨rfl,rfl⟩:=one id h hh
   simp at hx;subst hx
   match h,hown with
   |.none,⟨h0,_⟩=>rw[h0];rfl
   |.arr b c,⟨_,⟨vs,E,a1,a2⟩,a3,a4,a5⟩=>exact⟨⟨vs,E,a1,a2⟩,a3,a4,a5⟩
  ·have:=(one i gi h1).1;have:=(one j gj h2).1;omega
  ·obtain⟨rfl,rfl⟩:=one i h hh
   exact⟨fun hB=>hB.2 hb,hgsz b hb⟩
 have hT:cg N R [g] [.spare es.length k] ((0,.one (.own es 0))::argT 1 args) { tmps:=(#[v]++vs)++Array.replicate (fn.ntmps-(#[v]++vs).size) Go.undef,defers:=[] } :=by
  refine⟨by simp;omega,rfl,fun t x ht=>?_⟩;rw[List.lookup_cons]at ht;by_cases e:t=0
  ·subst e
   simp at ht;subst ht;refine⟨v,by rw[Array.getElem?_append_left m8,Array.getElem?_append_left m5];rfl,hpv,m5,fun n2 k2 e2=>?_⟩;simp at e2;obtain⟨rfl,rfl⟩:=e2;refine⟨amM _,hwide,fun _=>⟨g,rfl,?_⟩⟩
   match g,hown with
   |.none,⟨h0,ha⟩=>exact ha
   |.arr b c,⟨h0,_⟩=>exact h0
  ·have:(t==0)=false:=by simpa using e
   rw[this]at ht;obtain⟨p,h1,rfl,h2⟩:=kR args 1 t x ht;have hlt:t-1<vs.size:=by rw[hs];exact(amw.1 h1).1
   have hu:vs[t-1]?=some vs[t-1]:=amV hlt;refine⟨vs[t-1],?_,PV.av_rep (hv (t-1) _ p hu h1)⟩;rw[Array.getElem?_append_left m8,Array.getElem?_append_right m8];simp
 refine wp_mono (h (amR _) _ R [g] w _ hi hT) ?_;rintro e a' w' ⟨x,T',L',R',γ',rfl,⟨hx,hres⟩,i1,t1,e1,_⟩;unfold akm at hres;split at hres
 case h_2=>exact hres.elim
 rename_i t hrs;have hrs':fn.results=#[.tmp t]:=by cases hfr:fn.results;rw[hfr]at hrs;simp_all
 have hval:∀ u,a'.tmps[t]?=some u->(results fn a'.tmps).run P w' = .ok u w':=by
  intro u hu;rw[kE,hrs'];simp[iT,Array.getD_eq_getD_getElem?,hu]
 have fin:∀ u g',a'.tmps[t]?=some u->bg R' u (.lst es')->(∀ e∈es',e.length=k)->KR R' w' es' k u g'->(∀ b,g'.block=some b->w.heap.size<=b\/g.block=some b)->bodyPost P fn (fun e w' =>∃ v' R' g',e = .returned v'/\Ext (fun b=>b<w.heap.size/\g.block≠some b) R R' w w'/\(∀ b o u,R' b o=some u->w'.cell? ⟨b,o,none⟩=some u) /\
   bg R' v' (.lst es')/\(∀ e∈es',e.length=k)/\KR R' w' es' k v' g' /\ ∀ b,g'.block=some b->w.heap.size<=b\/g.block=some b) x.ex a' w':=by
  intro u g' hu hp hw ho hb;rcases hx with rfl|rfl
  ·exact⟨t1.defers,u,hval u hu,u,R',g',rfl,e1,i1.val,hp,hw,ho,hb⟩
  ·exact⟨t1.defers,u,hval u hu,u,R',g',rfl,e1,i1.val,hp,hw,ho,hb⟩
 split at hres
 ·rename_i es0 i hl
  obtain⟨rfl,hLi⟩:=hres;obtain⟨u,hu,hp,hlt,hall⟩:=t1.slot t _ hl;obtain⟨_,hw,hlk⟩:=hall _ _ hLi;obtain⟨g',hg',hlink⟩:=hlk rfl;have hob:=i1.obj i _ _ hLi hg';refine fin u g' hu hp hw ?_ ?_
  ·match g',hlink,hob with
   |.none,hlk,hob=>exact⟨amW hob,hlk⟩
   |.arr b c,hlk,⟨a1,a2,a3,a4⟩=>exact⟨hlk,a1,a2,a3,a4⟩
  ·intro b hb
   have:=(i1.new i g' b hg' hb).1;by_cases hlt2:b<w.heap.size
   ·right
    by_cases hge:g.block=some b
    ·exact hge
    ·exact absurd ⟨hlt2,hge⟩ this
   ·left;omega
 ·rename_i hl
  subst hres;obtain⟨u,hu,ad,rfl⟩:=t1.slot t _ hl;exact fin _ .none hu (cO _ _ _) m5 ⟨rfl,ad,rfl⟩ (by intro b hb;cases hb)
 ·exact hres.elim
end
section
variable {P:Program} {ti:TI} {N n0:Nat} {T:Tm} {L:List Ob}
def lL (ti:TI)(rs:List ResultVar)(T:Tm)(L:List Ob)(r:AV):Prop :=
 (∃ t,rs=[.tmp t]/\T.lookup t=some r)\/(∃ q,Res ti rs T L q/\r=q.av)
structure LZ (ti:TI)(rs:List ResultVar)(n0:Nat)(L1:List Ob)(r:AV)(T:Tm)(L:List Ob):Prop where
 val:lL ti rs T L r
 pre:∃ G,L=L1++G
 lo:n0<=L1.length
 obb:∀ x∈L1,x.below L1.length
 vb:r.below L1.length
theorem lL.sound (hti:TIok P ti){B:Nat->Prop}{R:PH}{γ:List Gh}{w:World}{a:Act}(hi:Inv B R γ L w)(hT:cg N R γ L T a){fn:Func}{r:AV}(h:lL ti fn.results.toList T L r) :
  ∃ v,(results fn a.tmps).run P w = .ok v w/\r.rep R γ L v:=by
 rcases h with⟨t,hr,ht⟩|⟨q,hr,rfl⟩
 ·obtain⟨u,h1,h2⟩:=hT.slot t r ht
  refine⟨u,?_,h2⟩;have e:fn.results=#[.tmp t]:=by cases h:fn.results;rw[h]at hr;simp at hr;rw[hr]
  rw[kE,e];simp[iT,h1]
 ·obtain⟨v,h1,h2⟩:=Res.sound hti hi hT hr
  exact⟨v,h1,CV.av_rep h2⟩
def dN:Nat->List AV->Tm
 |_,[]=>[]
 |i,p::ps=>(i,p)::dN (i+1) ps
theorem dO:∀ (ps:List AV) (i t:Nat) (x:AV),(dN i ps).lookup t=some x->ps[t-i]?=some x/\i<=t
 |[],i,t,x,h=>by simp[dN]at h
 |p::ps,i,t,x,h=>by
  rw[dN,List.lookup_cons]at h;by_cases e:t=i
  ·subst e
   simp at h;subst h;exact⟨m5,amM _⟩
  ·have:(t==i)=false:=by simpa using e
   rw[this]at h;obtain⟨h1,h3⟩:=dO ps (i+1) t x h;refine⟨?_,m0⟩;have:t-i=(t-(i+1))+1:=m0
   rw[this,List.getElem?_cons_succ];exact h1
theorem cw (hti : TIok P ti) {f : FuncId} {fn : Func} {c : Code} {args : List AV} {L0 L1 : List Ob} {r : AV} (hf : P.funcs[f]? = some fn) (hb : fn.body = some c) (hname : (fn.name == "runtime.NumGoroutine") = false) (hN : fn.ntmps = N) (hlen : args.length <= N)
  (h:Aw P N L0.length c (fun x T L=>(x = .normal\/x = .ret)/\LZ ti fn.results.toList L0.length L1 r T L) (dN 0 args) L0):Run P f L0 args L1 r:=by
 refine⟨⟨fn,hf,by rw[hb];rfl,hname⟩,fun B R γ w vs hi hs hv=>?_⟩;refine calls_of_wp hf hb ?_;have hT:cg N R γ L0 (dN 0 args) { tmps:=vs++Array.replicate (fn.ntmps-vs.size) Go.undef,defers:=[] } :=by
  refine⟨by simp;omega,rfl,fun t x ht=>?_⟩;obtain⟨h1,_⟩:=dO args 0 t x ht;rw[Nat.sub_zero]at h1;have hlt:t<vs.size:=by rw[hs];exact(amw.1 h1).1
  have hu:vs[t]?=some vs[t]:=amV hlt;exact⟨vs[t],by rw[Array.getElem?_append_left hlt];exact hu,hv t _ x hu h1⟩
 refine wp_mono (h (amM _) B R γ w _ hi hT) ?_;rintro e a' w' ⟨x,T',L',R',γ',rfl,⟨hx,hres⟩,i1,t1,e1,m1⟩;obtain⟨v,h1,h2⟩:=lL.sound hti i1 t1 hres.val;obtain⟨G,rfl⟩:=hres.pre;have hfit:Fits ([]:Tm) (L1++G) [] L1:=⟨fun p hp=>(by cases hp),⟨G,rfl⟩,fun p hp=>(by cases hp),hres.obb⟩;have hnil:cg N R' γ' (L1++G) ([]:Tm) a':=⟨t1.size,t1.defers,fun t x hx=>by simp at hx⟩;obtain⟨j1,_⟩:=hfit.sound i1 hnil;have hmv:=m1.trans hi.len (hfit.mvn i1 hres.lo);have hmv':Mv R R' γ (γ'.take L1.length) L0 L1:=by
  have:=hmv.mv;rw[am_ (amM _),am_ (by rw[hi.len];exact amM _)]at this;exact this
 have hrep:=AV.cut i1.len h2 hres.vb;rcases hx with rfl|rfl
 ·exact⟨t1.defers,v,h1,v,R',_,rfl,j1,e1,hmv',hrep⟩
 ·exact⟨t1.defers,v,h1,v,R',_,rfl,j1,e1,hmv',hrep⟩
def q6 (ti:TI)(rs:List ResultVar)(T:Tm)(L:List Ob)(r:AV):Prop :=
 lL ti rs T L r\/(∃ a t id off φ,rs=[.cell a t]/\T.lookup a=some (.one (.ptr id off))/\eM ti L t (.one (.ptr id off))=some (r,φ)/\φ)
theorem q6.sound (hti:TIok P ti){B:Nat->Prop}{R:PH}{γ:List Gh}{w:World}{a:Act}(hi:Inv B R γ L w)(hT:cg N R γ L T a){fn:Func}{r:AV}(h:q6 ti fn.results.toList T L r) :
  ∃ v,(results fn a.tmps).run P w = .ok v w/\r.rep R γ L v:=by
 rcases h with h|⟨ad,t,id,off,φ,hr,hl,hp,hφ⟩
 ·exact lL.sound hti hi hT h
 ·obtain⟨u,h1,hu⟩:=hT.slot ad _ hl
  obtain⟨b,rfl,hg⟩:=hu;obtain⟨u',r1,r2⟩:=lM hti hi (va := .one (.ptr id off)) (u1 := .pointer (some ⟨b,off,none⟩)) ⟨b,rfl,hg⟩ hp hφ;refine⟨u',?_,r2⟩;have e:fn.results=#[.cell ad t]:=by cases h:fn.results;rw[h]at hr;simp at hr;rw[hr]
  simp only[Instr.loadAt,Instr.sureAddr]at r1;rw[kE,e];have r3:(iT a.tmps (.cell ad t)).run P w = .ok u' w:=by simpa[iT,Array.getD_eq_getD_getElem?,h1,asAddr]using r1
  have hm:((#[ResultVar.cell ad t]:Array ResultVar).mapM (iT a.tmps)).run P w = .ok #[u'] w:=by
   rw[Array.mapM_eq_mapM_toList];simp[Sem.run_map,r3,Result.andThen_ok]
  simp only[Sem.run_bind];rw[hm];rfl
def rx (rs:List ResultVar)(T:Tm)(r:AV):Prop :=
 ∃ s t x y,rs=[.tmp s,.tmp t]/\T.lookup s=some (.one x)/\T.lookup t=some (.one y)/\r = .tupS [x,y]
theorem rx.sound {R:PH}{γ:List Gh}{w:World}{a:Act}(hT:cg N R γ L T a){fn:Func}{r:AV}(h:rx fn.results.toList T r) :
  ∃ v,(results fn a.tmps).run P w = .ok v w/\r.rep R γ L v:=by
 obtain⟨s,t,x,y,hr,hs,ht,rfl⟩:=h;obtain⟨u,h1,h2⟩:=hT.slot s _ hs;obtain⟨v,h3,h4⟩:=hT.slot t _ ht;refine⟨.tuple #[u,v],?_,#[u,v],rfl,rfl,fun j z p hz hp=>?_⟩
 ·have e:fn.results=#[.tmp s,.tmp t]:=by cases h:fn.results;rw[h]at hr;simp at hr;rw[hr]
  rw[kE,e];simp[iT,h1,h3]
 ·match j,hz,hp with
  |0,hz,hp=>simp at hz hp;subst hz hp;exact h2
  |1,hz,hp=>simp at hz hp;subst hz hp;exact h4
  |j+2,hz,hp=>simp at hp
end
section
variable {P:Program} {ti:TI} {L:List Ob}
theorem rM {ρ ρ':Operand->Option AV}:∀ (ps:List (Nat×Operand)) (j:Nat),(∀ p∈ps,ρ p.2=ρ' p.2)->lh ρ ps j=lh ρ' ps j
 |[],_,_=>rfl
 |(i,x)::ps,j,h=>by
  have h1:ρ x=ρ' x:=h (i,x) m5;have h2:=rM ps (j+1) fun p hp=>h p (amU _ hp)
  simp only[lh,h1,h2]
theorem kg {ρ ρ':Operand->Option AV}:∀ (xs:List Operand),(∀ x∈xs,ρ x=ρ' x)->dr ρ xs=dr ρ' xs
 |[],_=>rfl
 |x::xs,h=>by
  have h1:ρ x=ρ' x:=h x m5;have h2:=kg xs fun y hy=>h y (amU _ hy)
  simp only[dr,h1,h2]
theorem DF {ρ ρ':Operand->Option AV}{op:Op}(h:∀ x,x∈op.operands->ρ x=ρ' x):pop ti ρ L op=pop ti ρ' L op:=by
 unfold pop;split
 ·rename_i x;rw[h x (by simp[Op.operands])]
 ·rename_i x;rw[h x (by simp[Op.operands])]
 ·rename_i c x y;rw[h c (by simp[Op.operands]),h x (by simp[Op.operands]),h y (by simp[Op.operands])]
 ·rename_i o t x y yt;rw[h x (by simp[Op.operands]),h y (by simp[Op.operands])]
 ·rename_i o t x;rw[h x (by simp[Op.operands])]
 ·rename_i s d x;rw[h x (by simp[Op.operands])]
 ·rename_i t x;rw[h x (by simp[Op.operands])]
 ·rename_i s x i;rw[h x (by simp[Op.operands])]
 ·rename_i s x i;rw[h x (by simp[Op.operands])]
 ·rename_i t x y;rw[h x (by simp[Op.operands]),h y (by simp[Op.operands])]
 ·rename_i t x y;rw[h x (by simp[Op.operands]),h y (by simp[Op.operands])]
 ·rename_i x i;rw[h x (by simp[Op.operands])]
 ·rename_i x;rw[h x (by simp[Op.operands])]
 ·rename_i t x lo hi
  have h1:lo.map ρ=lo.map ρ':=by cases lo with|none=>rfl|some y=>simp[h y (by simp[Op.operands])]
  have h2:hi.map ρ=hi.map ρ':=by cases hi with|none=>rfl|some y=>simp[h y (by simp[Op.operands])]
  rw[h x (by simp[Op.operands]),h1,h2]
 ·rename_i args ts
  split
  ·rename_i x t hx ht
   rw[h x (by simp[Op.operands,Call.operands];rw[<- Array.mem_toList_iff,hx];simp)]
  ·rfl
 ·rename_i args ts
  have:args.toList.map ρ=args.toList.map ρ':=List.map_congr_left fun x hx=>h x (by simp[Op.operands,Call.operands];simpa using hx)
  rw[this]
 ·rename_i args ts
  have:args.toList.map ρ=args.toList.map ρ':=List.map_congr_left fun x hx=>h x (by simp[Op.operands,Call.operands];simpa using hx)
  rw[this]
 ·rename_i t parts
  have:(parts.toList.map fun p=>(p.1,ρ p.2))=parts.toList.map fun p=>(p.1,ρ' p.2):=List.map_congr_left fun p hp=>by
   rw[h p.2 (by simp only[Op.operands,List.mem_toArray];exact List.mem_map_of_mem hp)]
  rw[this]
 ·rename_i f first captured
  have:captured.toList.map ρ=captured.toList.map ρ':=List.map_congr_left fun x hx=>h x (by simp[Op.operands];exact .inr (by simpa using hx))
  rw[this]
 ·rfl
theorem AB {ρ:Operand->Option AV}{op:Op}{r:AV×List Ob×Prop}(h:xj ti ρ L op=some r):bP ti op=true:=by
 unfold xj at h;split at h
 ·rfl
 ·rfl
 ·rfl
 ·rfl
 ·cases h
theorem fo {ρ:Operand->Option AV}{op:Op}{r:FuncId×List (List AC)×Option Nat×List PV}(h:dW ti ρ op=some r):bP ti op=true:=by
 unfold dW at h;split at h
 ·rename_i f args ts
  split at h
  ·rename_i x xs ho hxs;exact ho
  ·cases h
 ·cases h
theorem wP {ρ ρ':Operand->Option AV}{op:Op}(h:∀ x,x∈op.operands->ρ x=ρ' x):rS ti ρ op=rS ti ρ' op:=by
 unfold rS;split
 ·rename_i t len parts
  unfold vd;rw[rM parts.toList 0 fun p hp=>h p.2 (by simp only[Op.operands,List.mem_toArray];exact List.mem_map_of_mem hp)]
 ·rfl
theorem uk {ρ ρ':Operand->Option AV}{op:Op}(h:∀ x,x∈op.operands->ρ x=ρ' x):oL ρ op=oL ρ' op:=by
 unfold oL;split
 ·rename_i f args ts
  have h1:ρ f=ρ' f:=h f (by simp[Op.operands,Call.operands]);have h2:dr ρ args.toList=dr ρ' args.toList:=kg _ fun x hx=>h x (by simp[Op.operands,Call.operands];exact .inr (by simpa using hx))
  rw[h1,h2]
 ·rfl
theorem ot {ρ:Operand->Option AV}{op:Op}{r:FuncId×List AV}(h:dj ti ρ op=some r):bP ti op=true:=by
 unfold dj at h;split at h
 case h_2=>cases h
 split at h
 ·rename_i hc _ _;exact hc
 ·rename_i hc _ _;exact hc
 ·cases h
theorem JR {ρ:Operand->Option AV}{op:Op}{K:AV->List Ob->Prop}(hl:bP ti op=false)(ha:fB P ti ρ L K op):∃ v,fB P ti ρ L (fun v' L'=>v'=v/\L'=L) op/\K v L:=by
 rcases ha with⟨v,φ,hp,hφ,hk⟩|⟨v,φ,hp,hφ,hk⟩|⟨v,L',φ,hp,_⟩|⟨g,ps,r,hc,hP,hk⟩|⟨g,es,t,k,ps,es',hc,_⟩|⟨g,k,ps,es',hc,_⟩|⟨σ,g,L0,asx,L1,r,hc,_⟩|⟨v,L',hk,_⟩
 ·exact⟨v,.inl ⟨v,φ,hp,hφ,rfl,rfl⟩,hk⟩
 ·exact⟨v,.inr (.inl ⟨v,φ,hp,hφ,rfl,rfl⟩),hk⟩
 ·rw[AB hp]at hl;cases hl
 ·exact⟨r.av,.inr (.inr (.inr (.inl ⟨g,ps,r,hc,hP,rfl,rfl⟩))),hk⟩
 ·rw[fo hc]at hl;cases hl
 ·rw[fo hc]at hl;cases hl
 ·rw[ot hc]at hl;cases hl
 ·rw[hk.1]at hl;cases hl
end
def adT (acc:List Nat)(o:Oper):Nat:=o.after.toList.foldl (fun s e=>if Region.binds .any e then s |||2 ^ e.on |||acc.getD e.on 0 else s) 0
def masks:List Oper->List Nat->List Nat
 |[],acc=>acc
 |o::rest,acc=>masks rest (acc++[adT acc o])
def fO (ops:Array Oper)(o:Oper):List Tmp:=o.looksAt ops++o.dst.toList
inductive KE (l:List Oper):Nat->Nat->Prop
 |edge {i:Nat} {o:Oper} {e:Edge} (h:l[i]?=some o) (he:e∈o.after.toList) (hb:Region.binds .any e=true):KE l i e.on
 |step {i j:Nat} {o:Oper} {e:Edge} (h:l[i]?=some o) (he:e∈o.after.toList) (hb:Region.binds .any e=true) (h2:KE l e.on j):KE l i j
theorem Ef (acc:List Nat)(j:Nat):∀ (es:List Edge) (s:Nat),(es.foldl (fun s e=>if Region.binds .any e then s |||2 ^ e.on |||acc.getD e.on 0 else s) s).testBit j=true ->
  s.testBit j=true \/ ∃ e∈es,Region.binds .any e=true/\(e.on=j\/(acc.getD e.on 0).testBit j=true)
 |[],s,h => .inl h
 |e::es,s,h=>by
  rw[anl]at h;rcases Ef acc j es _ h with h1|⟨e',h1,h2⟩
  ·by_cases hb:Region.binds .any e=true
   ·rw[if_pos hb,Nat.testBit_or,Nat.testBit_or]at h1
    simp only[Bool.or_eq_true,Nat.testBit_two_pow,decide_eq_true_eq]at h1;rcases h1 with(h1|h1)|h1
    ·exact .inl h1
    ·exact .inr ⟨e,m5,hb,.inl h1⟩
    ·exact .inr ⟨e,m5,hb,.inr h1⟩
   ·rw[if_neg hb]at h1;exact .inl h1
  ·exact .inr ⟨e',amU _ h1,h2⟩
theorem sc (l:List Oper):∀ (rest:List Oper) (acc:List Nat),(∀ q,l[acc.length+q]?=rest[q]?)->(∀ i j,i<acc.length->(acc.getD i 0).testBit j=true->KE l i j) ->
  ∀ i j,((masks rest acc).getD i 0).testBit j=true->KE l i j
 |[],acc,_,h,i,j,hb=>by
  by_cases hi:i<acc.length
  ·exact h i j hi hb
  ·have hb':(acc.getD i 0).testBit j=true:=hb
   rw[ann,anj m0]at hb';simp at hb'
 |o::rest,acc,hl,h,i,j,hb=>by
  refine sc l rest (acc++[adT acc o]) (fun q=>?_) (fun i j hi hb=>?_) i j hb
  ·have:=hl (q+1)
   simp only[List.getElem?_cons_succ]at this;rw[<- this];congr 1;simp;omega
  ·by_cases hi2:i<acc.length
   ·rw[ann,amK hi2,<- ann]at hb
    exact h i j hi2 hb
   ·have:i=acc.length:=by simp at hi;omega
    subst this;rw[ann,amD m0]at hb;simp only[Nat.sub_self,List.getElem?_cons_zero,Option.getD_some]at hb;have ho:l[acc.length]?=some o:=by simpa using hl 0
    rcases Ef acc j _ _ hb with h0|⟨e,he,hbd,h1|h1⟩
    ·simp at h0
    ·subst h1;exact .edge ho he hbd
    ·by_cases hlt:e.on<acc.length
     ·exact .step ho he hbd (h e.on j hlt h1)
     ·rw[ann,anj m0]at h1
      simp at h1
structure Done (l:List Oper)(listed:Array Bool):Prop where
 size:listed.size=l.length
 down:∀ (i:Nat) o,l[i]?=some o->listed[i]?=some true ->∀ e∈o.after.toList,Region.binds .any e=true->listed[e.on]?=some true
theorem Done.anc {l:List Oper}{listed:Array Bool}(h:Done l listed){i j:Nat}(ha:KE l i j)(hd:∀ o,l[i]?=some o ->∀ e∈o.after.toList,Region.binds .any e=true->listed[e.on]?=some true):listed[j]?=some true:=by
 induction ha with
 |edge ho he hb=>exact hd _ ho _ he hb
 |step ho he hb _ ih=>exact ih fun o ho'=>h.down _ o ho' (hd _ ho _ he hb)
theorem Done.put {l:List Oper}{listed:Array Bool}(h:Done l listed){i:Nat}(hi:∀ o,l[i]?=some o ->∀ e∈o.after.toList,Region.binds .any e=true->listed[e.on]?=some true):Done l (listed.setIfInBounds i true):=by
 refine⟨by simp[h.size],fun j o ho hj e he hb=>?_⟩;have key:listed[e.on]?=some true:=by
  by_cases hij:j=i
  ·subst hij;exact hi o ho e he hb
  ·rw[ane (Ne.symm hij)]at hj
   exact h.down j o ho hj e he hb
 by_cases hx:e.on=i
 ·rw[hx,ano (by rw[hx]at key;exact(anf.1 key).1)]
 ·rw[ane (Ne.symm hx)];exact key
def fD (ds:List (Option Tmp))(T:Tm):Option (Nat×Bool)->Option Bool
 |none=>some true
 |some (j,want)=>match ds[j]? with
  |some (some d)=>match T.lookup d with
   |some (.one (.c (.bool b)))=>some (b==want)
   |some .undef=>some false
   |_=>none
  |_=>none
theorem ael {ds:List (Option Tmp)}{T:Tm}{A B:Prop}{g:Option (Nat×Bool)}(h:gd ds T A B g):(fD ds T g=some true/\A)\/(fD ds T g=some false/\B):=by
 cases g with
 |none=>exact .inl ⟨rfl,h⟩
 |some p =>
  obtain⟨j,want⟩:=p;simp only[gd]at h;simp only[fD];split at h
  ·rename_i d hd
   try simp only[hd]
   split at h
   ·rename_i b hb
    try simp only[hb]
    by_cases hbw:b=want
    ·exact .inl ⟨by simp[hbw],h.1 hbw⟩
    ·exact .inr ⟨by simp[hbw],h.2 (by cases b<;>cases want<;>simp_all)⟩
   ·rename_i hb
    try simp only[hb]
    exact .inr ⟨m5,h⟩
   ·exact h.elim
  ·exact h.elim
def eJ:List Oper->List AV->Tm->Nat->Tm
 |o::l,v::vs,T,i+1=>eJ l vs (rK T o.dst v) i
 |_,_,T,_=>T
theorem pn {T:Tm}{d:Option Tmp}{v:AV}{t:Nat}(h:d≠some t):(rK T d v).lookup t=T.lookup t:=by
 cases d with
 |none=>rfl
 |some d =>
  have:(t==d)=false:=by simp;intro e;exact h (by rw[e])
  simp[rK,List.lookup_cons,this]
theorem lq {t:Nat}:∀ (l:List Oper) (vs:List AV) (T:Tm) (i:Nat),(∀ j o,j<i->l[j]?=some o->o.dst≠some t)->(eJ l vs T i).lookup t=T.lookup t
 |o::l,v::vs,T,i+1,h=>by
  rw[eJ,lq l vs _ i fun j o' hj ho=>h (j+1) o' m0 (by simpa using ho),pn (h 0 o m0 rfl)]
 |[],_,_,_,_=>by simp[eJ]
 |_::_,[],_,_,_=>by simp[eJ]
 |_::_,_::_,_,0,_=>by simp[eJ]
theorem qM {t:Nat}:∀ (l:List Oper) (vs:List AV) (T:Tm) (i j:Nat) (o:Oper) (v:AV),j<i->l[j]?=some o->o.dst=some t->vs[j]?=some v->(∀ k o',j<k->k<i->l[k]?=some o'->o'.dst≠some t)->(∀ k,k<i->k<=j->k<vs.length)->(eJ l vs T i).lookup t=some v
 |[],_,_,_,_,_,_,_,h,_,_,_,_=>by simp at h
 |_::_,[],_,_,_,_,_,_,_,_,h,_,_=>by simp at h
 |_::_,_::_,_,0,_,_,_,h,_,_,_,_,_=>by omega
 |o0::l,v0::vs,T,i+1,0,o,v,_,ho,hd,hv,hk,_=>by
  simp at ho hv;subst ho hv;rw[eJ,lq l vs _ i fun j o' hj ho'=>hk (j+1) o' m0 m0 (by simpa using ho'),hd];simp[rK,List.lookup_cons]
 |o0::l,v0::vs,T,i+1,j+1,o,v,hj,ho,hd,hv,hk,hl=>by
  rw[eJ];exact qM l vs _ i j o v m0 (by simpa using ho) hd (by simpa using hv) (fun k o' h1 h2 h3=>hk (k+1) o' m0 m0 (by simpa using h3)) (fun k h1 h2=>by have:=hl (k+1) m0 m0;simpa using this)
section
variable {P:Program} {ti:TI} {B:Nat->Prop} {N n0:Nat} {γ:List Gh} {L:List Ob}
theorem q8 {ops:Array Oper}{ds:List (Option Tmp)}(hds:∀ j:Nat,(ops[j]?).map (·.dst)=ds[j]?){T:Tm}{R:PH}{a:Act}{o:Oper}{b:Bool}(hs:∀ d x,d∈o.looksAt ops->T.lookup d=some x ->∃ u,a.tmps[d]?=some u/\x.rep R γ L u)(h:fD ds T o.guard=some b):Region.wanted o (yielded ops a.tmps)=b:=by
 cases hg:o.guard with
 |none=>rw[hg]at h;injection h with h;subst h;simp[Region.wanted,hg]
 |some p =>
  obtain⟨j,want⟩:=p;rw[hg]at h;simp only[fD]at h;split at h
  ·rename_i d hd0
   have hd:(ops[j]?).bind (·.dst)=some d:=by
    have:=hds j;rw[hd0]at this
    cases ho:ops[j]? with
    |none=>simp[ho]at this
    |some o'=>simpa[ho]using this
   have hmem:d∈o.looksAt ops:=by
    unfold Oper.looksAt;rw[hg];simp[hd]
   split at h
   ·rename_i b' hb
    injection h with h;subst h
    obtain⟨u,h1,h2⟩:=hs d _ hmem hb
    cases h2;have hy:yielded ops a.tmps j=some b':=by simp[yielded,hd,h1]
    simp[Region.wanted,hg,hy]
   ·rename_i hb
    injection h with h;subst h
    obtain⟨u,h1,h2⟩:=hs d _ hmem hb;have h2':u=Go.undef:=h2;subst h2';have hy:yielded ops a.tmps j=none:=by simp[yielded,hd,h1,Go.undef]
    simp[Region.wanted,hg,hy]
   ·cases h
  ·cases h
theorem uU {α:Type}{p q:α->Bool}:∀ (l:List α),(∀ x∈l,q x=true->p x=true)->(∃ x∈l,p x=true/\q x=false)->l.countP q<l.countP p
 |[],_,⟨x,hx,_⟩=>by cases hx
 |y::l,h,⟨x,hx,h1,h2⟩=>by
  have hle:l.countP q<=l.countP p:=List.countP_mono_left fun z hz=>h z (amU _ hz)
  rw[List.countP_cons,List.countP_cons];rcases amN.1 hx with rfl|hx
  ·rw[h1,h2];simp;omega
  ·have:=uU l (fun z hz=>h z (amU _ hz)) ⟨x,hx,h1,h2⟩
   have hy:=h y m5
   cases hq:q y<;>cases hp:p y<;>simp_all<;>omega
def o_ (n:Nat)(listed:Array Bool):Nat:=(List.range n).countP fun i=>listed[i]?==some false
end
def y_:Op->Bool
 |.load _ _=>false
 |.fieldAddr _ _ _=>false
 |.indexAddr _ _ _=>false
 |.nilCheck _=>false
 |.slice _ _ _ _ _=>false
 |.call { callee := .builtin .len,.. } =>false
 |_=>true
def isLoad:Op->Bool
 |.load _ _=>true
 |_=>false
def Iq (F:List Nat):Op->Bool
 |.load _ (.tmp t)=>F.contains t
 |_=>false
def okX (F:List Nat)(ti:TI)(i c:Nat)(oi oc:Op):Bool :=
 y_ oi||(Iq F oi||(ti.soft&&match sk oc with
  |1=>decide (i<c)
  |2=>true
  |3 => !isLoad oi
  |4=>true
  |_=>false))
def agI (ti:TI)(o:Oper)(F:List Nat):List Nat:=match F,o.guard,o.dst,o.op with
 |[],_,_,_=>[]
 |F,none,some d,.fieldAddr _ (.tmp t) _=>if F.contains t=true then d::F else F
 |F,none,some d,.indexAddr _ (.tmp t) _=>if F.contains t=true then d::F else F
 |F,none,some d,.load ty (.tmp t)=>if F.contains t=true/\ti.agg ty=some false then d::F else F
 |F,_,_,_=>F
def G7 (ti:TI):List Oper->Nat->List Nat->List Nat
 |_,_,[]=>[]
 |o::l,n+1,F=>G7 ti l n (agI ti o F)
 |_,_,F=>F
def fS (F:List Nat)(ti:TI)(l:List Oper):Bool :=
 let ms:=masks l []
 (F.all fun t=>l.all fun o=>o.dst !=some t) &&
 (l.zipIdx.all fun p=>p.1.after.toList.all fun e => !Region.binds .any e||decide (e.on<p.2)) &&
 (l.zipIdx.all fun p => !bP ti p.1.op||l.zipIdx.all fun q => !bP ti q.1.op||decide (p.2<=q.2)||(ms.getD p.2 0).testBit q.2) &&
 (l.zipIdx.all fun p=>l.zipIdx.all fun q=>decide (p.2=q.2)||(match p.1.dst with
  |some d => !(fO l.toArray q.1).contains d||(p.1.dst !=q.1.dst&&(if p.2<q.2 then(ms.getD q.2 0).testBit p.2 else(ms.getD p.2 0).testBit q.2))
  |none=>true)) &&
 (l.zipIdx.all fun p=>bP ti p.1.op||l.zipIdx.all fun q => !bP ti q.1.op||(ms.getD p.2 0).testBit q.2||(ms.getD q.2 0).testBit p.2||okX (G7 ti l p.2 F) ti p.2 q.2 p.1.op q.1.op)
def ahF (ti:TI)(l:List Oper):Bool:=fS [] ti l
structure ahX (F:List Nat)(ti:TI)(l:List Oper):Prop where
 fz:∀ t∈F,∀ o∈l,o.dst≠some t
 back:∀ (i:Nat) o,l[i]?=some o ->∀ e∈o.after.toList,Region.binds .any e=true->e.on<i
 chain:∀ (i j:Nat) o o',l[i]?=some o->l[j]?=some o'->bP ti o.op=true->bP ti o'.op=true->j<i->KE l i j
 apart:∀ (i j:Nat) o o' d,i≠j->l[i]?=some o->l[j]?=some o'->o.dst=some d->d∈fO l.toArray o'->o'.dst≠some d/\(if i<j then KE l j i else KE l i j)
 cross:∀ (i c:Nat) o oc,l[i]?=some o->l[c]?=some oc->bP ti o.op=false->bP ti oc.op=true ->¬ KE l i c ->¬ KE l c i->okX (G7 ti l i F) ti i c o.op oc.op=true
theorem Ii {F:List Nat}{ti:TI}{l:List Oper}(h:fS F ti l=true):ahX F ti l:=by
 unfold fS at h;simp only[amO]at h;obtain⟨⟨⟨⟨h0,h1⟩,h2⟩,h3⟩,h4⟩:=h;have hspec:=sc l l [] (fun q=>by simp) (fun i j hi=>by simp at hi);have zi:∀ {l':List Oper} (i:Nat) o,l'[i]?=some o->(o,i)∈l'.zipIdx:=by
  intro l' i o ho;rw[List.mem_iff_getElem?];exact⟨i,by simp[List.getElem?_zipIdx,ho]⟩
 refine⟨fun t ht o ho e=>by have:=ank.1 (ank.1 h0 t ht) o ho;rw[e]at this;simp at this,fun i o ho e he hb=>?_,fun i j o o' ho ho' hk hk' hj=>?_,fun i j o o' d hne ho ho' hd hn=>?_,fun i c o oc ho hoc hk hk' n1 n2=>?_⟩
 ·have:=ank.1 (ank.1 h1 (o,i) (zi i o ho)) e he
  simpa[hb]using this
 ·have:=ank.1 h2 (o,i) (zi i o ho)
  simp only[hk,Bool.not_true,Bool.false_or]at this;have:=ank.1 this (o',j) (zi j o' ho');simp only[hk',Bool.not_true,Bool.false_or,Bool.or_eq_true,decide_eq_true_eq]at this;rcases this with this|this
  ·omega
  ·exact hspec i j this
 ·have:=ank.1 (ank.1 h3 _ (zi i o ho)) _ (zi j o' ho')
  simp only[hne,decide_false,Bool.false_or,hd]at this;have hc:(fO l.toArray o').contains d=true:=by simpa using hn
  rw[hc]at this;simp only[Bool.not_true,Bool.false_or,amO,bne_iff_ne,ne_eq]at this;refine⟨fun e=>this.1 e.symm,?_⟩;by_cases hij:i<j
  ·rw[if_pos hij]at this ⊢
   exact hspec j i this.2
  ·rw[if_neg hij]at this ⊢
   exact hspec i j this.2
 ·have:=ank.1 h4 (o,i) (zi i o ho)
  simp only[hk,Bool.false_or]at this;have:=ank.1 this (oc,c) (zi c oc hoc);simp only[hk',Bool.not_true,Bool.false_or,Bool.or_eq_true]at this;rcases this with(this|this)|this
  ·exact absurd (hspec i c this) n1
  ·exact absurd (hspec c i this) n2
  ·exact this
section
variable {P:Program} {ti:TI} {ρ:Operand->Option AV} {L L':List Ob}
theorem ajr {F:List Nat}{op:Op}(h:Iq F op=true)(hF:∀ t∈F,∃ x,ρ (.tmp t)=some (.one (.c x))):pop ti ρ L op=pop ti ρ L' op:=by
 unfold Iq at h;split at h
 ·rename_i ty t
  obtain⟨x,hx⟩:=hF t (by simpa using h);simp only[pop,hx,amv];unfold eM
  cases x<;>rfl
 ·cases h
def Ob.vis:Ob->Bool
 |.box _=>true
 |.row _ _ _=>true
 |_=>false
def RelA (L L':List Ob):Prop :=∀ (id:Nat) x,L[id]?=some x->x.vis=true->L'[id]?=some x
def RelB (L L':List Ob):Prop :=∀ (id:Nat) ver es k,L[id]?=some (.row ver es k) ->∃ es',L'[id]?=some (.row ver es' k)
theorem RelA.toB (h:RelA L L'):RelB L L':=fun id ver es k e=>⟨es,h id _ e rfl⟩
theorem Oi {op:Op}(h:y_ op=true):pop ti ρ L op=pop ti ρ L' op:=by
 cases op with
 |call c =>
  obtain⟨callee,args,ts⟩:=c
  cases callee with
  |builtin b=>cases b<;>first|(cases h;done)|rfl
  |_=>rfl
 |makeFunc f first captured=>cases f<;>rfl
 |_=>first|(cases h;done)|rfl
theorem Cb (h:RelB L L'){s:TypeId}{i0 id ver i off:Nat}{r:AV×Prop}(e:dR ti L s i0 id ver i off=some r):dR ti L' s i0 id ver i off=some r:=by
 unfold dR at e ⊢;split at e
 ·rename_i ver' es k o t hL hf
  obtain⟨es',h'⟩:=h id _ _ _ hL;rw[h',hf];exact e
 ·cases e
theorem J0 (h:RelB L L'){t:TypeId}{id ver n:Nat}{r:AV×Prop}(e:gl ti L t id ver n=some r):gl ti L' t id ver n=some r:=by
 unfold gl at e ⊢;split at e
 ·rename_i ver' es k hL
  obtain⟨es',h'⟩:=h id _ _ _ hL;rw[h'];exact e
 ·cases e
theorem Ce (h:RelB L L'){t:TypeId}{id ver lo n:Nat}{ix:AV}{r:AV×Prop}(e:dP ti L t id ver lo n ix=some r):dP ti L' t id ver lo n ix=some r:=by
 unfold dP at e ⊢;split at e
 ·rename_i ver' es k' kk i k hL hk
  obtain⟨es',h'⟩:=h id _ _ _ hL;rw[h',hk];exact e
 ·cases e
theorem nT (h:RelB L L'){t:TypeId}{x:AV}{lo hi:Option AV}{r:AV×Prop}(e:dJ ti L t x lo hi=some r):dJ ti L' t x lo hi=some r:=by
 unfold dJ at e ⊢;split at e
 ·exact e
 ·rename_i id ver lo0 n
  split at e
  ·rename_i ver' es k' k hL hk
   obtain⟨es',h'⟩:=h id _ _ _ hL;simp only[h',hk];exact e
  ·cases e
 ·exact e
theorem afH (h:RelB L L'){op:Op}(hl:isLoad op=false){r:AV×Prop}(e:pop ti ρ L op=some r):pop ti ρ L' op=some r:=by
 by_cases hins:y_ op=true
 ·rw[<- Oi hins (L:=L)];exact e
 unfold pop at e ⊢;split at e
 all_goals first
  |exact e
  |(cases hl;done)
  |skip
 ·split at e
  ·exact Cb h e
  ·exact e
  ·cases e
 ·split at e
  ·exact Ce h e
  ·exact e
  ·cases e
 ·split at e
  ·exact e
  ·exact e
  ·rename_i id ver i o hx
   split at e
   ·rename_i ver' es k hL
    obtain⟨es',h'⟩:=h id _ _ _ hL;simp only[h'];exact e
   ·cases e
  ·exact e
  ·exact e
  ·cases e
 ·split at e
  ·exact nT h e
  ·exact nT h e
  ·exact nT h e
  ·exact nT h e
  ·cases e
 ·split at e
  ·split at e
   ·exact J0 h e
   ·exact e
   ·cases e
  ·cases e
theorem acO (h:RelA L L'){t:TypeId}{x:AV}{r:AV×Prop}(e:eM ti L t x=some r):eM ti L' t x=some r:=by
 unfold eM at e ⊢;split at e
 ·exact e
 ·rename_i id off
  split at e
  ·rename_i cs hL
   simp only[h id _ hL rfl];exact e
  ·cases e
 ·rename_i id ver i o
  split at e
  ·rename_i ver' es k hL
   simp only[h id _ hL rfl];exact e
  ·cases e
 ·cases e
theorem Hq (h:RelA L L'){op:Op}{r:AV×Prop}(e:pop ti ρ L op=some r):pop ti ρ L' op=some r:=by
 cases hl:isLoad op with
 |false=>exact afH h.toB hl e
 |true =>
  cases op<;>first|(cases hl;done)|skip
  rename_i t p;simp only[pop]at e ⊢
  cases hp:ρ p with
  |none=>simp[hp]at e
  |some v=>simp only[hp,amv]at e ⊢;exact acO h e
theorem ahs {op:Op}{v:AV}{φ:Prop}(h:xj ti ρ L op=some (v,L',φ)):(sk op=1->RelA L L')/\(sk op=2->RelA L L'/\RelA L' L)/\(sk op=3->RelB L L'/\RelB L' L):=by
 have grow:∀ x,RelA L (L++[x]):=fun x id y hy _=>by rw[amK (amw.1 hy).1];exact hy
 have setA:∀ (i:Nat) (x y:Ob),L[i]?=some x->x.vis=false->y.vis=false->RelA L (L.set i y)/\RelA (L.set i y) L:=by
  intro i x y hx hv hv';have hlt:=(amw.1 hx).1;refine⟨fun id z hz hvz=>?_,fun id z hz hvz=>?_⟩
  ·by_cases e:id=i
   ·subst e;rw[hx]at hz;injection hz with hz;subst hz;rw[hv]at hvz;cases hvz
   ·rw[amQ (Ne.symm e)];exact hz
  ·by_cases e:id=i
   ·subst e;rw[amP hlt]at hz;injection hz with hz;subst hz;rw[hv']at hvz;cases hvz
   ·rw[amQ (Ne.symm e)]at hz;exact hz
 unfold xj at h;split at h
 ·split at h
  ·injection h with h;injection h with e1 e2;injection e2 with e2 e3;subst e2
   exact⟨fun _=>grow _,fun e=>(by cases e),fun e=>by cases e⟩
  ·cases h
 ·split at h
  ·injection h with h;injection h with e1 e2;injection e2 with e2 e3;subst e2
   exact⟨fun _=>grow _,fun e=>(by cases e),fun e=>by cases e⟩
  ·cases h
 ·refine⟨fun e=>(by cases e),fun e=>(by cases e),fun _=>?_⟩
  split at h
  ·rename_i id off xs hp hx
   split at h
   ·rename_i cs hL
    injection h with h;injection h with e1 e2;injection e2 with e2 e3;subst e2
    have hlt:=(amw.1 hL).1;refine⟨fun id' ver es k e=>?_,fun id' ver es k e=>?_⟩
    ·by_cases hid:id'=id
     ·subst hid;rw[hL]at e;cases e
     ·exact⟨es,by rw[amQ (Ne.symm hid)];exact e⟩
    ·by_cases hid:id'=id
     ·subst hid;rw[amP hlt]at e;cases e
     ·exact⟨es,by rw[amQ (Ne.symm hid)]at e;exact e⟩
   ·cases h
  ·rename_i id ver i o xs hp hx
   split at h
   ·rename_i ver' es k hL
    split at h
    ·rename_i e0 he0
     injection h with h;injection h with e1 e2;injection e2 with e2 e3;subst e2
     have hlt:=(amw.1 hL).1;refine⟨fun id' ver2 es2 k2 e=>?_,fun id' ver2 es2 k2 e=>?_⟩
     ·by_cases hid:id'=id
      ·subst hid;rw[hL]at e;injection e with e;injection e with q1 q2 q3;subst q1 q2 q3
       exact⟨_,amP hlt⟩
      ·exact⟨es2,by rw[amQ (Ne.symm hid)];exact e⟩
     ·by_cases hid:id'=id
      ·subst hid;rw[amP hlt]at e;injection e with e;injection e with q1 q2 q3;subst q1 q2 q3
       exact⟨es,hL⟩
      ·exact⟨es2,by rw[amQ (Ne.symm hid)]at e;exact e⟩
    ·cases h
   ·cases h
  ·cases h
 ·refine⟨fun e=>(by cases e),fun _=>?_,fun e=>by cases e⟩
  split at h
  ·split at h
   ·unfold pA at h
    split at h
    ·split at h
     ·split at h
      ·injection h with h;injection h with e1 e2;injection e2 with e2 e3;subst e2
       refine⟨grow _,fun id x hx hv=>?_⟩;by_cases hid:id<L.length
       ·rw[amK hid]at hx;exact hx
       ·rw[amD m0]at hx
        have:=(amw.1 hx).1;have h0:id-L.length=0:=by simp at this;omega
        rw[h0]at hx;simp at hx;subst hx;cases hv
      ·split at h
       ·rename_i hL
        injection h with h;injection h with e1 e2;injection e2 with e2 e3;subst e2
        exact setA _ _ _ hL rfl rfl
       ·cases h
      ·cases h
     ·cases h
    ·cases h
   ·cases h
  ·cases h
 ·cases h
theorem abX {ρ':Operand->Option AV}{op:Op}(h:∀ x,x∈op.operands->ρ x=ρ' x):xj ti ρ L op=xj ti ρ' L op:=by
 unfold xj;split
 ·rfl
 ·rename_i t x;rw[h x (by simp[Op.operands])]
 ·rename_i t p x;rw[h p (by simp[Op.operands]),h x (by simp[Op.operands])]
 ·rename_i args ts
  split
  ·rename_i s x t tx hs hx
   rw[h s (by simp[Op.operands,Call.operands];rw[<- Array.mem_toList_iff,hs];simp),h x (by simp[Op.operands,Call.operands];rw[<- Array.mem_toList_iff,hs];simp)]
  ·rfl
 ·rfl
theorem D4 {ρ':Operand->Option AV}:∀ (xs:List Operand),(∀ x∈xs,ρ x=ρ' x)->avs ρ xs=avs ρ' xs
 |[],_=>rfl
 |x::xs,h=>by
  have h1:ρ x=ρ' x:=h x m5;have h2:=D4 xs fun y hy=>h y (amU _ hy)
  simp only[avs,h1,h2]
theorem r8 {ρ':Operand->Option AV}{op:Op}(h:∀ x,x∈op.operands->ρ x=ρ' x):dW ti ρ op=dW ti ρ' op:=by
 unfold dW;split
 ·rename_i f args ts
  split
  ·rename_i x xs ho hxs
   have hm:∀ y,y∈x::xs->ρ y=ρ' y:=fun y hy=>h y (by simp[Op.operands,Call.operands];exact .inr (by rw[<- Array.mem_toList_iff,hxs];exact hy))
   rw[hm x m5,kg xs fun y hy=>hm y (amU _ hy)]
  ·rfl
 ·rfl
theorem B6 {ρ':Operand->Option AV}{op:Op}(h:∀ x,x∈op.operands->ρ x=ρ' x):dj ti ρ op=dj ti ρ' op:=by
 unfold dj;split
 ·rename_i f args ts
  have h1:ρ f=ρ' f:=h f (by simp[Op.operands,Call.operands]);have h2:avs ρ args.toList=avs ρ' args.toList:=D4 _ fun x hx=>h x (by simp[Op.operands,Call.operands];exact .inr (by simpa using hx))
  rw[h1,h2]
 ·rfl
theorem acB {ρ':Operand->Option AV}{op:Op}{v:AV}(h:∀ x,x∈op.operands->ρ x=ρ' x)(hs:kZ P ρ L op v L'):kZ P ρ' L op v L' :=
 fun B R γ w ev o ho hi hρ hfv=>hs B R γ w ev o ho hi (fun x hx v hv=>hρ x hx v (by rw[<- h x hx];exact hv)) hfv
theorem wG {ρ':Operand->Option AV}{op:Op}{K:AV->List Ob->Prop}(h:∀ x,x∈op.operands->ρ x=ρ' x)(ha:fB P ti ρ L K op):fB P ti ρ' L K op:=by
 rcases ha with ha|ha|ha|ha|ha|ha|ha|⟨v,L',h1,h2,h3⟩
 ·rw[DF h]at ha;exact .inl ha
 ·rw[wP h]at ha;exact .inr (.inl ha)
 ·rw[abX h]at ha;exact .inr (.inr (.inl ha))
 ·rw[uk h]at ha;exact .inr (.inr (.inr (.inl ha)))
 ·rw[r8 h]at ha;exact .inr (.inr (.inr (.inr (.inl ha))))
 ·rw[r8 h]at ha;exact .inr (.inr (.inr (.inr (.inr (.inl ha)))))
 ·rw[B6 h]at ha;exact .inr (.inr (.inr (.inr (.inr (.inr (.inl ha))))))
 ·exact .inr (.inr (.inr (.inr (.inr (.inr (.inr ⟨v,L',h1,acB h h2,h3⟩))))))
theorem aca {op:Op}{K:AV->List Ob->Prop}(ha:fB P ti ρ L K op):∃ v L1,fB P ti ρ L (fun v' L'=>v'=v/\L'=L1) op/\K v L1:=by
 rcases ha with⟨v,φ,hp,hφ,hk⟩|⟨v,φ,hp,hφ,hk⟩|⟨v,L',φ,hp,hφ,hk⟩|⟨g,ps,r,hc,hP,hk⟩|⟨g,es,t,k,ps,es',hc,h1,h2,hk⟩|⟨g,k,ps,es',hc,h1,hk⟩|⟨σ,g,L0,asx,L1,r,hc,h1,h2,hk⟩|⟨v,L',h1,h2,hk⟩
 ·exact⟨v,_,.inl ⟨v,φ,hp,hφ,rfl,rfl⟩,hk⟩
 ·exact⟨v,_,.inr (.inl ⟨v,φ,hp,hφ,rfl,rfl⟩),hk⟩
 ·exact⟨v,_,.inr (.inr (.inl ⟨v,L',φ,hp,hφ,rfl,rfl⟩)),hk⟩
 ·exact⟨_,_,.inr (.inr (.inr (.inl ⟨g,ps,r,hc,hP,rfl,rfl⟩))),hk⟩
 ·exact⟨_,_,.inr (.inr (.inr (.inr (.inl ⟨g,es,t,k,ps,es',hc,h1,h2,rfl,rfl⟩)))),hk⟩
 ·exact⟨_,_,.inr (.inr (.inr (.inr (.inr (.inl ⟨g,k,ps,es',hc,h1,rfl,rfl⟩))))),hk⟩
 ·exact⟨_,_,.inr (.inr (.inr (.inr (.inr (.inr (.inl ⟨σ,g,L0,asx,L1,r,hc,h1,h2,rfl,rfl⟩)))))),hk⟩
 ·exact⟨_,_,.inr (.inr (.inr (.inr (.inr (.inr (.inr ⟨v,L',h1,h2,rfl,rfl⟩)))))),hk⟩
theorem quiet_move {op:Op}{v:AV}{L1:List Ob}(hl:bP ti op=false)(ha:fB P ti ρ L (fun v' L'=>v'=v/\L'=L1) op)(hr:∀ r,pop ti ρ L op=some r->pop ti ρ L' op=some r):fB P ti ρ L' (fun v' L''=>v'=v/\L''=L') op:=by
 rcases ha with⟨v',φ,hp,hφ,hk⟩|⟨v',φ,hp,hφ,hk⟩|⟨v',L',φ,hp,_⟩|⟨g,ps,r,hc,hP,hk⟩|⟨g,es,t,k,ps,es',hc,_⟩|⟨g,k,ps,es',hc,_⟩|⟨σ,g,L0,asx,L1,r,hc,_⟩|⟨v',L',hk,_⟩
 ·exact .inl ⟨v',φ,hr _ hp,hφ,hk.1,rfl⟩
 ·exact .inr (.inl ⟨v',φ,hp,hφ,hk.1,rfl⟩)
 ·rw[AB hp]at hl;cases hl
 ·exact .inr (.inr (.inr (.inl ⟨g,ps,r,hc,hP,hk.1,rfl⟩)))
 ·rw[fo hc]at hl;cases hl
 ·rw[fo hc]at hl;cases hl
 ·rw[ot hc]at hl;cases hl
 ·rw[hk.1]at hl;cases hl
theorem sH {op:Op}{v:AV}{L1:List Ob}(hl:bP ti op=false)(ha:fB P ti ρ L (fun v' L'=>v'=v/\L'=L1) op):L1=L:=by
 obtain⟨v',_,h1,h2⟩:=JR hl ha;exact h2.symm
theorem adw {op:Op}{v:AV}{L1:List Ob}(hs:ti.soft=true)(h0:sk op≠0)(ha:fB P ti ρ L (fun v' L'=>v'=v/\L'=L1) op):(sk op=1->RelA L L1)/\(sk op=2->RelA L L1/\RelA L1 L)/\(sk op=3->RelB L L1/\RelB L1 L)/\(sk op=4->RelA L L1/\RelA L1 L):=by
 have self:RelA L L/\RelB L L:=⟨fun _ _ h _=>h,fun _ _ es _ h=>⟨es,h⟩⟩;have hcall:∀ c,op = .call c->(∀ f,c.callee = .value f->False):=by
  intro c e f hf;subst e;obtain⟨callee,args,ts⟩:=c;simp only at hf;subst hf;exact h0 rfl
 rcases ha with⟨v',φ,hp,hφ,rfl,rfl⟩|⟨v',φ,hp,hφ,rfl,rfl⟩|⟨v',L',φ,hp,hφ,rfl,rfl⟩|⟨g,ps,r,hc,hP,rfl,rfl⟩|⟨g,es,t,k,ps,es',hc,_⟩|⟨g,k,ps,es',hc,_⟩|⟨σ,g,L0,asx,L2,r,hc,_⟩|⟨v',L',hk,hh⟩
 ·exact⟨fun _=>self.1,fun _=>⟨self.1,self.1⟩,fun _=>⟨self.2,self.2⟩,fun _=>⟨self.1,self.1⟩⟩
 ·exact⟨fun _=>self.1,fun _=>⟨self.1,self.1⟩,fun _=>⟨self.2,self.2⟩,fun _=>⟨self.1,self.1⟩⟩
 ·obtain⟨q1,q2,q3⟩:=ahs hp
  refine⟨q1,q2,q3,fun e4=>?_⟩;exfalso;unfold xj at hp;split at hp<;>first|(cases e4;done)|(cases hp;done)
 ·exact⟨fun _=>self.1,fun _=>⟨self.1,self.1⟩,fun _=>⟨self.2,self.2⟩,fun _=>⟨self.1,self.1⟩⟩
 ·exfalso
  unfold dW at hc;split at hc
  ·exact hcall _ rfl _ rfl
  ·cases hc
 ·exfalso
  unfold dW at hc;split at hc
  ·exact hcall _ rfl _ rfl
  ·cases hc
 ·exfalso
  unfold dj at hc;split at hc
  ·exact hcall _ rfl _ rfl
  ·cases hc
 ·rcases hk.2 hs with e|⟨e4,rfl⟩
  ·exact absurd e h0
  ·obtain⟨_,_,rfl⟩:=hh
   exact⟨fun _=>self.1,fun _=>⟨self.1,self.1⟩,fun _=>⟨self.2,self.2⟩,fun _=>⟨self.1,self.1⟩⟩
end
