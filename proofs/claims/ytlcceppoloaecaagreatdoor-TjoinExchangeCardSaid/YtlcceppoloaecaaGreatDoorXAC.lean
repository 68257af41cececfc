/- Parts. No condition. -/
import Derived.Test.YtlcceppoloaecaaGreatDoorXAB
set_option linter.unusedSimpArgs false
set_option linter.unusedVariables false
namespace Go.Proofs.YtlcceppoloaecaaGreatDoor
open Go.RowKit
def jH (σ:List Nat)(i:Nat):Nat:=σ.getD i 0
def Cap.ren (σ:List Nat):Cap->Cap
 |.c x => .c x
 |.ptr id off => .ptr (jH σ id) off
def SV.ren (σ:List Nat):SV->SV
 |.c x => .c x
 |.emp => .emp
 |.own es t => .own es (jH σ t)
 |.ptr id off => .ptr (jH σ id) off
 |.sl id OY lo n => .sl (jH σ id) OY lo n
 |.ep id OY i o => .ep (jH σ id) OY i o
 |.mp id => .mp (jH σ id)
 |.clo f caps => .clo f (caps.map (Cap.ren σ))
def AV.ren (σ:List Nat):AV->AV
 |.one x => .one (x.ren σ)
 |.agg xs => .agg (xs.map (SV.ren σ))
 |.tup ps => .tup ps
 |.tupS xs => .tupS (xs.map (SV.ren σ))
 |.undef => .undef
def Ob.ren (σ:List Nat):Ob->Ob
 |.box cs => .box (cs.map (SV.ren σ))
 |.spare n k => .spare n k
 |.row OY es k => .row OY (es.map (List.map (SV.ren σ))) k
 |.map PT => .map (PT.map fun p=>(p.1,p.2.ren σ))
 |.dead => .dead
def Cap.below (n:Nat):Cap->Prop
 |.ptr id _=>id<n
 |_=>True
def SV.below (n:Nat):SV->Prop
 |.own _ t=>t<n
 |.ptr id _=>id<n
 |.sl id _ _ _=>id<n
 |.ep id _ _ _=>id<n
 |.mp id=>id<n
 |.clo _ caps =>∀ x∈caps,x.below n
 |_=>True
def AV.below (n:Nat):AV->Prop
 |.one x=>x.below n
 |.agg xs =>∀ x∈xs,x.below n
 |.tupS xs =>∀ x∈xs,x.below n
 |_=>True
def Ob.below (n:Nat):Ob->Prop
 |.box cs =>∀ x∈cs,x.below n
 |.row _ es _ =>∀ e∈es,∀ x∈e,x.below n
 |.map PT =>∀ p∈PT,p.2.below n
 |_=>True
structure FZ (σ:List Nat)(γ0:List Gh)(L0:List Ob)(γ:List Gh)(L:List Ob):Prop where
 glen:γ0.length=L0.length
 gh:∀ i,i<L0.length->γ[jH σ i]?=γ0[i]?
 ob:∀ (i:Nat) x,L0[i]?=some x->L[jH σ i]?=some (x.ren σ)
section
variable {P:Program} {B:Nat->Prop} {R:PH} {γ0 γ:List Gh} {L0 L:List Ob} {w:World} {σ:List Nat}
theorem FZ.lt (h:FZ σ γ0 L0 γ L){i:Nat}(hi:i<L0.length):jH σ i<L.length :=
 (aq6.1 (h.ob i _ (arf hi))).1
theorem FZ.spare (h:FZ σ γ0 L0 γ L){i n k:Nat}(hi:i<L0.length)(e:L[jH σ i]?=some (.spare n k)):L0[i]?=some (.spare n k):=by
 have h0:=arf hi;rw[h0];have h1:=h.ob i _ h0;rw[e]at h1;injection h1 with h1
 cases hx:L0[i]<;>rw[hx]at h1<;>simp[Ob.ren]at h1;rw[h1.1,h1.2]
theorem FZ.row (h:FZ σ γ0 L0 γ L){i OY k:Nat}{es:List (List SV)}(hi:i<L0.length)(e:L[jH σ i]?=some (.row OY es k)):∃ UB,L0[i]?=some (.row OY UB k)/\UB.length=es.length:=by
 have h0:=arf hi;have h1:=h.ob i _ h0;rw[e]at h1;injection h1 with h1
 cases hx:L0[i]<;>rw[hx]at h1<;>simp[Ob.ren]at h1;rename_i O9 Pz k';obtain⟨a,b,c⟩:=h1;subst a b c;exact⟨Pz,by rw[h0,hx],m5⟩
theorem FZ.gbox (h:FZ σ γ0 L0 γ L){i:Nat}{g:Gh}(e:γ0[i]?=some g):γ[jH σ i]?=some g:=by
 rw[h.gh i (by rw[<- h.glen];exact(aq6.1 e).1)];exact e
theorem Cap.up (h:FZ σ γ0 L0 γ L){x:Cap}{v:Value}(hx:x.rep R γ0 v):(x.ren σ).rep R γ v:=by
 cases x with
 |c y=>exact hx
 |ptr id off=>obtain⟨b,h1,h2⟩:=hx;exact⟨b,h1,h.gbox h2⟩
theorem SV.up (h:FZ σ γ0 L0 γ L){x:SV}{v:Value}(hx:x.rep R γ0 L0 v):(x.ren σ).rep R γ L v:=by
 cases x with
 |c y=>exact hx
 |emp=>exact hx
 |own es t =>
  obtain⟨h1,OZ,h2⟩:=hx;refine⟨h1,h.lt OZ,fun n k e=>?_⟩;rw[h.gh t OZ];exact h2 n k (h.spare OZ e)
 |ptr id off=>obtain⟨b,h1,h2⟩:=hx;exact⟨b,h1,h.gbox h2⟩
 |sl id OY lo n =>
  obtain⟨h1,OZ,h2⟩:=hx;refine⟨h1,h.lt OZ,fun O9 es k e=>?_⟩;obtain⟨UB,g1,g2⟩:=h.row OZ e;rw[h.gh id OZ,<- g2];exact h2 O9 UB k g1
 |ep id OY i o =>
  obtain⟨h1,OZ,h2⟩:=hx;refine⟨h1,h.lt OZ,fun O9 es k e=>?_⟩;obtain⟨UB,g1,g2⟩:=h.row OZ e;rw[h.gh id OZ,<- g2];exact h2 O9 UB k g1
 |mp id=>obtain⟨b,h1,h2⟩:=hx;exact⟨b,h1,h.gbox h2⟩
 |clo f caps =>
  obtain⟨vs,h1,h2,h3⟩:=hx;refine⟨vs,h1,by simpa using h2,fun j u x hu hx=>?_⟩;rw[arw]at hx
  cases hq:caps[j]? with
  |none=>simp[hq]at hx
  |some y=>simp[hq]at hx;subst hx;exact Cap.up h (h3 j u y hu hq)
theorem AV.up (h:FZ σ γ0 L0 γ L){x:AV}{v:Value}(hx:x.rep R γ0 L0 v):(x.ren σ).rep R γ L v:=by
 cases x with
 |one x=>exact SV.up h hx
 |agg xs =>
  obtain⟨vs,h1,h2,h3⟩:=hx;refine⟨vs,h1,by simpa using h2,fun j u x hu hx=>?_⟩;rw[arw]at hx
  cases hq:xs[j]? with
  |none=>simp[hq]at hx
  |some y=>simp[hq]at hx;subst hx;exact SV.up h (h3 j u y hu hq)
 |tup ps=>exact hx
 |tupS xs =>
  obtain⟨vs,h1,h2,h3⟩:=hx;refine⟨vs,h1,by simpa using h2,fun j u x hu hx=>?_⟩;rw[arw]at hx
  cases hq:xs[j]? with
  |none=>simp[hq]at hx
  |some y=>simp[hq]at hx;subst hx;exact SV.up h (h3 j u y hu hq)
 |undef=>exact hx
theorem mi.up (h:FZ σ γ0 L0 γ L){x:Ob}{g:Gh}(hx:mi R γ0 L0 w x g):mi R γ L w (x.ren σ) g:=by
 match x,g,hx with
 |.box cs,.box b,⟨⟨vs,E,h1,h2,h3⟩,h4⟩ =>
  refine⟨⟨vs,E,h1,by simpa using h2,fun j u x hu hx=>?_⟩,h4⟩;rw[arw]at hx
  cases hq:cs[j]? with
  |none=>simp[hq]at hx
  |some y=>simp[hq]at hx;subst hx;exact SV.up h (h3 j u y hu hq)
 |.spare n k,.arr b c,h=>exact h
 |.spare n k,.none,h=>exact h
 |.row OY es k,.arr b c,⟨⟨vs,E,h1,h2,h3⟩,h4,h5,h6,h7⟩ =>
  refine⟨⟨vs,E,h1,h2,fun i e j u x he hu hx=>?_⟩,by simpa using h4,h5,fun e he=>?_,h7⟩
  ·rw[arw]at he
   cases hq:es[i]? with
   |none=>simp[hq]at he
   |some y =>
    simp[hq]at he;subst he;rw[arw]at hx
    cases T9:y[j]? with
    |none=>simp[T9]at hx
    |some z=>simp[T9]at hx;subst hx;exact SV.up h (h3 i y j u z hq hu T9)
  ·obtain⟨y,hy,rfl⟩:=arK.1 he
   simpa using h6 y hy
 |.row OY es k,.none,h=>have h:es=[]:=h;subst h;rfl
 |.map PT,.box b,⟨⟨es,h1,h2,h3⟩,h4⟩ =>
  refine⟨⟨es,h1,by simpa using h2,fun j e p he hp=>?_⟩,h4⟩;rw[arw]at hp
  cases hq:PT[j]? with
  |none=>simp[hq]at hp
  |some y=>simp[hq]at hp;subst hp;exact⟨(h3 j e y he hq).1,(h3 j e y he hq).2.1,AV.up h (h3 j e y he hq).2.2⟩
 |.dead,.none,h=>exact h
 |.dead,.box _,h=>exact h
theorem Cap.down (h:FZ σ γ0 L0 γ L){x:Cap}{v:Value}(hx:(x.ren σ).rep R γ v)(hb:x.below L0.length):x.rep R γ0 v:=by
 cases x with
 |c y=>exact hx
 |ptr id off=>obtain⟨b,h1,h2⟩:=hx;exact⟨b,h1,by rw[<- h.gh id hb];exact h2⟩
theorem SV.down (h:FZ σ γ0 L0 γ L){x:SV}{v:Value}(hx:(x.ren σ).rep R γ L v)(hb:x.below L0.length):x.rep R γ0 L0 v:=by
 cases x with
 |c y=>exact hx
 |emp=>exact hx
 |own es t =>
  obtain⟨h1,_,h2⟩:=hx;have OZ:t<L0.length:=hb;refine⟨h1,OZ,fun n k e=>?_⟩;rw[<- h.gh t OZ];exact h2 n k (h.ob t _ e)
 |ptr id off=>obtain⟨b,h1,h2⟩:=hx;exact⟨b,h1,by rw[<- h.gh id hb];exact h2⟩
 |sl id OY lo n =>
  obtain⟨h1,_,h2⟩:=hx;have OZ:id<L0.length:=hb;refine⟨h1,OZ,fun O9 es k e=>?_⟩;have:=h2 O9 _ k (h.ob id _ e);rw[<- h.gh id OZ];simpa using this
 |ep id OY i o =>
  obtain⟨h1,_,h2⟩:=hx;have OZ:id<L0.length:=hb;refine⟨h1,OZ,fun O9 es k e=>?_⟩;have:=h2 O9 _ k (h.ob id _ e);rw[<- h.gh id OZ];simpa using this
 |mp id=>obtain⟨b,h1,h2⟩:=hx;exact⟨b,h1,by rw[<- h.gh id hb];exact h2⟩
 |clo f caps =>
  obtain⟨vs,h1,h2,h3⟩:=hx;exact⟨vs,h1,by simpa using h2,fun j u x hu hx=>Cap.down h (h3 j u _ hu (by rw[arw,hx];rfl)) (hb x (arb hx))⟩
theorem AV.down (h:FZ σ γ0 L0 γ L){x:AV}{v:Value}(hx:(x.ren σ).rep R γ L v)(hb:x.below L0.length):x.rep R γ0 L0 v:=by
 cases x with
 |one x=>exact SV.down h hx hb
 |agg xs =>
  obtain⟨vs,h1,h2,h3⟩:=hx;exact⟨vs,h1,by simpa using h2,fun j u x hu hx=>SV.down h (h3 j u _ hu (by rw[arw,hx];rfl)) (hb x (arb hx))⟩
 |tup ps=>exact hx
 |tupS xs =>
  obtain⟨vs,h1,h2,h3⟩:=hx;exact⟨vs,h1,by simpa using h2,fun j u x hu hx=>SV.down h (h3 j u _ hu (by rw[arw,hx];rfl)) (hb x (arb hx))⟩
 |undef=>exact hx
theorem mi.down (h:FZ σ γ0 L0 γ L){x:Ob}{g:Gh}(hx:mi R γ L w (x.ren σ) g)(hb:x.below L0.length):mi R γ0 L0 w x g:=by
 match x,g,hx,hb with
 |.box cs,.box b,⟨⟨vs,E,h1,h2,h3⟩,h4⟩,hb =>
  exact⟨⟨vs,E,h1,by simpa using h2,fun j u x hu hx=>SV.down h (h3 j u _ hu (by rw[arw,hx];rfl)) (hb x (arb hx))⟩,h4⟩
 |.spare n k,.arr b c,h,_=>exact h
 |.spare n k,.none,h,_=>exact h
 |.row OY es k,.arr b c,⟨⟨vs,E,h1,h2,h3⟩,h4,h5,h6,h7⟩,hb =>
  refine⟨⟨vs,E,h1,h2,fun i e j u x he hu hx=>?_⟩,by simpa using h4,h5,fun e he=>?_,h7⟩
  ·exact SV.down h (h3 i (e.map (SV.ren σ)) j u _ (by rw[arw,he];rfl) hu (by rw[arw,hx];rfl)) (hb e (arb he) x (arb hx))
  ·simpa using h6 _ (List.mem_map_of_mem he)
 |.row OY es k,.none,h,_=>have h:es.map _=[]:=h;exact List.map_eq_nil_iff.1 h
 |.map PT,.box b,⟨⟨es,h1,h2,h3⟩,h4⟩,hb =>
  refine⟨⟨es,h1,by simpa using h2,fun j e p he hp=>?_⟩,h4⟩;have:=h3 j e _ he (by rw[arw,hp];rfl);exact⟨this.1,this.2.1,AV.down h this.2.2 (hb p (arb hp))⟩
 |.dead,.none,h,_=>exact h
 |.dead,.box _,h,_=>exact h
def Outside (γ0:List Gh)(w:World)(b:Nat):Prop:=b<w.heap.size /\ ∀ (i:Nat) g,γ0[i]?=some g->g.block≠some b
theorem aiK (hi:Inv B R γ L w)(h:FZ σ γ0 L0 γ L)(US:∀ i j,i<L0.length->j<L0.length->jH σ i=jH σ j->i=j)(hb:∀ x∈L0,x.below L0.length):Inv (Outside γ0 w) R γ0 L0 w:=by
 refine⟨h.glen,hi.val,fun id x g hx hg=>?_,fun i j gi gj h1 h2 Ph b hb=>?_,fun i g b hg hb=>⟨fun ho=>ho.2 i g hg hb,(hi.new _ g b (h.gbox hg) hb).2⟩,fun b hb=>hb.1⟩
 ·exact mi.down h (hi.obj _ _ g (h.ob id x hx) (h.gbox hg)) (hb x (arb hx))
 ·have b1:i<L0.length:=by rw[<- h.glen];exact(aq6.1 h1).1
  have b2:j<L0.length:=by rw[<- h.glen];exact(aq6.1 h2).1
  exact hi.inj _ _ gi gj (h.gbox h1) (h.gbox h2) (fun e=>Ph (US i j b1 b2 e)) b hb
theorem agz (hi:Inv B R γ L w)(h:FZ σ γ0 L0 γ L){R':PH}{w':World}{σ':List Nat}{γ1 γ':List Gh}{L1 L':List Ob}(h1:Inv (Outside γ0 w) R' γ1 L1 w')(he:Ext (Outside γ0 w) R R' w w')(hm:Mv R R' γ0 γ1 L0 L1)
  (h':FZ σ' γ1 L1 γ' L') (hσ:∀ i,i<L0.length->jH σ' i=jH σ i) (hlen:L.length<=L'.length) (Wz:γ'.length=L'.length)
  (inj':∀ i j,i<L1.length->j<L1.length->jH σ' i=jH σ' j->i=j)
  (all:∀ j,j<L'.length->(∃ i,i<L1.length/\jH σ' i=j)\/(j<L.length/\(∀ i,i<L0.length->jH σ i≠j)/\L'[j]?=L[j]?/\γ'[j]?=γ[j]?))
  (new':∀ i,L0.length<=i->i<L1.length->L.length<=jH σ' i) :
  Inv B R' γ' L' w'/\Ext B R R' w w'/\Mv R R' γ γ' L L':=by
 have hBO:∀ b,B b->Outside γ0 w b:=fun b hb=>⟨hi.bsz b hb,fun i g hg e=>(hi.new _ g b (h.gbox hg) e).1 hb⟩
 have hE:Ext B R R' w w':=⟨he.below.mono hBO,he.sub,fun b o hb=>he.old b o (hBO b hb)⟩;have ZZ:∀ j g b,(∀ i,i<L0.length->jH σ i≠j)->γ[j]?=some g->g.block=some b->Outside γ0 w b:=by
  intro j g b hj hg hb;refine⟨(hi.new j g b hg hb).2,fun i g0 Tn e=>?_⟩;have b1:i<L0.length:=by rw[<- h.glen];exact(aq6.1 Tn).1
  exact hi.inj j _ g g0 hg (h.gbox Tn) (fun e=>hj i b1 e.symm) b hb e
 have SY:Mv R R' γ γ' L L':=by
  have old:∀ t,t<L.length->(∃ i,i<L0.length/\jH σ i=t)\/(L'[t]?=L[t]?/\γ'[t]?=γ[t]?):=by
   intro t ht;rcases all t (arO ht hlen)with⟨i,Q5,Qo⟩|⟨_,_,a,b⟩
   ·by_cases RI:i<L0.length
    ·exact .inl ⟨i,RI,by rw[<- hσ i RI];exact Qo⟩
    ·have:=new' i m0 Q5;omega
   ·exact .inr ⟨a,b⟩
  refine⟨he.sub,hlen,fun t n' k ht e=>?_,fun t OY Pz k ht e=>?_,fun id b hg=>?_⟩
  ·rcases old t ht with⟨i,RI,rfl⟩|⟨a,b⟩
   ·have Q5:i<L1.length:=arO RI hm.len
    rw[<- hσ i RI]at e;obtain⟨n,g1,g2,g3⟩:=hm.tok i n' k RI (h'.spare Q5 e);exact⟨n,h.ob i _ g1,g2,fun q=>by rw[h.gh i RI,<- hσ i RI,h'.gh i Q5];exact g3 q⟩
   ·exact⟨n',by rw[<- a];exact e,aro _,fun _=>b⟩
  ·rcases old t ht with⟨i,RI,rfl⟩|⟨a,b⟩
   ·have Q5:i<L1.length:=arO RI hm.len
    rw[<- hσ i RI]at e;obtain⟨es1,q1,q2⟩:=h'.row Q5 e;obtain⟨SE,es,g1,g2,g3⟩:=hm.row i OY es1 k RI q1;exact⟨SE,_,h.ob i _ g1,g2,fun q=>⟨by have:=(g3 q).1;simp;omega,by rw[h.gh i RI,<- hσ i RI,h'.gh i Q5];exact(g3 q).2⟩⟩
   ·exact⟨OY,Pz,by rw[<- a];exact e,aro _,fun _=>⟨rfl,b⟩⟩
  ·have ht:id<L.length:=by rw[<- hi.len];exact(aq6.1 hg).1
   rcases old id ht with⟨i,RI,rfl⟩|⟨a,b'⟩
   ·have Q5:i<L1.length:=arO RI hm.len
    rw[<- hσ i RI,h'.gh i Q5];exact hm.ptr i b (by rw[<- h.gh i RI];exact hg)
   ·rw[b'];exact hg
 have back:∀ j g,γ'[j]?=some g->(∃ i,i<L1.length/\jH σ' i=j/\γ1[i]?=some g)\/(j<L.length/\(∀ i,i<L0.length->jH σ i≠j)/\L'[j]?=L[j]?/\γ[j]?=some g):=by
  intro j g hg;have hj:j<L'.length:=by rw[<- Wz];exact(aq6.1 hg).1
  rcases all j hj with⟨i,a,rfl⟩|⟨a,b,c,d⟩
  ·exact .inl ⟨i,a,rfl,by rw[<- h'.gh i a];exact hg⟩
  ·exact .inr ⟨a,b,c,by rw[<- d];exact hg⟩
 refine⟨⟨Wz,h1.val,fun j x g hx hg=>?_,fun j1 j2 g1 g2 q1 q2 Ph b hb=>?_,fun j g b hg hb=>?_,fun b hb=>arO (hi.bsz b hb) he.below.size⟩,hE,SY⟩
 ·rcases back j g hg with⟨i,a,rfl,c⟩|⟨a,b,c,d⟩
  ·have hy:=arf a
   rw[h'.ob i _ hy]at hx;injection hx with hx;subst hx
   exact mi.up h' (h1.obj i _ g hy c)
  ·exact(hi.obj j x g (by rw[<- c];exact hx) d).mv SY (fun b' P3=>he.below.block b' (ZZ j g b' b d P3)) (fun b' o P3 e=>by rw[he.old b' o (ZZ j g b' b d P3)];exact e)
 ·rcases back j1 g1 q1 with⟨i1,a1,r1,c1⟩|⟨a1,b1,_,d1⟩<;>rcases back j2 g2 q2 with⟨i2,a2,r2,c2⟩|⟨a2,b2,_,d2⟩
  ·exact h1.inj i1 i2 g1 g2 c1 c2 (fun e=>Ph (by rw[<- r1,<- r2,e])) b hb
  ·intro e;exact(h1.new i1 g1 b c1 hb).1 (ZZ j2 g2 b b2 d2 e)
  ·intro e;exact(h1.new i2 g2 b c2 e).1 (ZZ j1 g1 b b1 d1 hb)
  ·exact hi.inj j1 j2 g1 g2 d1 d2 Ph b hb
 ·rcases back j g hg with⟨i,a,_,c⟩|⟨a,b',_,d⟩
  ·exact⟨fun hB=>(h1.new i g b c hb).1 (hBO b hB),(h1.new i g b c hb).2⟩
  ·have:=hi.new j g b d hb
   exact⟨this.1,arO this.2 he.below.size⟩
end
def dr {α:Type}:List α->List Nat->List α->List α
 |l,i::σ,x::xs=>dr (l.set i x) σ xs
 |l,_,_=>l
theorem dZ {α:Type}:∀ (σ:List Nat) (l xs:List α),(dr l σ xs).length=l.length
 |[],l,xs=>by cases xs<;>rfl
 |i::σ,l,[]=>rfl
 |i::σ,l,x::xs=>by rw[dr,dZ σ];simp
theorem qQ {α:Type}:∀ (σ:List Nat) (l xs:List α) (j:Nat),(∀ i∈σ,i≠j)->(dr l σ xs)[j]?=l[j]?
 |[],l,xs,j,_=>by cases xs<;>rfl
 |i::σ,l,[],j,_=>rfl
 |i::σ,l,x::xs,j,h=>by
  rw[dr,qQ σ _ xs j (fun k hk=>h k (arx _ hk)),art (h i (arX ..))]
theorem y6 {α:Type}:∀ (σ:List Nat) (l xs:List α) (i s:Nat),σ.Nodup->(∀ k∈σ,k<l.length)->σ[i]?=some s->i<xs.length->(dr l σ xs)[s]?=xs[i]?
 |[],l,xs,i,s,_,_,h,_=>by simp at h
 |k::σ,l,[],i,s,_,_,_,h=>by simp at h
 |k::σ,l,x::xs,i,s,hn,hb,h,hi=>by
  rw[dr];have P5:=List.nodup_cons.1 hn
  cases i with
  |zero =>
   simp at h;subst h;rw[qQ σ _ xs k (fun q hq e=>P5.1 (by rw[<- e];exact hq)),ars (hb k (arX ..))];rfl
  |succ i =>
   rw[y6 σ (l.set k x) xs i s P5.2 (fun q hq=>by simpa using hb q (arx _ hq)) (by simpa using h) (by simpa using hi)];simp
theorem y8:∀ {σ:List Nat} {i j s:Nat},σ.Nodup->σ[i]?=some s->σ[j]?=some s->i=j
 |[],i,j,s,_,h,_=>by simp at h
 |k::σ,0,0,s,_,_,_=>rfl
 |k::σ,0,j+1,s,hn,h1,h2=>by
  simp at h1 h2;subst h1;exact absurd (arb h2) (List.nodup_cons.1 hn).1
 |k::σ,i+1,0,s,hn,h1,h2=>by
  simp at h1 h2;subst h2;exact absurd (arb h1) (List.nodup_cons.1 hn).1
 |k::σ,i+1,j+1,s,hn,h1,h2=>by
  have h3:σ[i]?=some s:=by simpa using h1
  have h4:σ[j]?=some s:=by simpa using h2
  have:=y8 (List.nodup_cons.1 hn).2 h3 h4;omega
def ft (n m:Nat):List Nat:=(List.range m).map (n + ·)
def ce (σ:List Nat)(n m:Nat):List Nat:=σ++ft n (m-σ.length)
def join {α:Type}(σ:List Nat)(l xs:List α):List α:=dr l σ xs++xs.drop σ.length
def joinL (σ:List Nat)(L L1:List Ob):List Ob:=join σ L (L1.map (Ob.ren (ce σ L.length L1.length)))
theorem qw {σ:List Nat}{n m i:Nat}(hi:i<σ.length):jH (ce σ n m) i=jH σ i:=by
 unfold jH ce;rw[ar_,ar_,arl hi]
theorem kE {σ:List Nat}{i:Nat}(hi:i<σ.length):σ[i]?=some (jH σ i):=by
 unfold jH;rw[ar_,arf hi];rfl
theorem pU {σ:List Nat}{n m i:Nat}(hi:σ.length<=i)(hm:i<m):jH (ce σ n m) i=n+(i-σ.length):=by
 unfold jH ce ft;rw[ar_,arc hi,arw,List.getElem?_range m0];rfl
theorem aep {α:Type}{σ:List Nat}{l xs:List α}{n i:Nat}(hl:l.length=n)(hn:σ.Nodup)(hb:∀ k∈σ,k<l.length)(hi:i<xs.length):(join σ l xs)[jH (ce σ n xs.length) i]?=xs[i]?:=by
 unfold join;by_cases h:i<σ.length
 ·rw[qw h,arl (by rw[dZ];exact hb _ (arb (kE h)))]
  exact y6 σ l xs i _ hn hb (kE h) hi
 ·rw[pU m0 hi,arc (by rw[dZ];omega),dZ,arW]
  congr 1;omega
theorem join_length {α:Type}(σ:List Nat)(l xs:List α):(join σ l xs).length=l.length+(xs.length-σ.length):=by
 unfold join;rw[ard,dZ,List.length_drop]
theorem BS {α:Type}{σ:List Nat}{l xs:List α}{j:Nat}(hj:j<l.length)(h:∀ i∈σ,i≠j):(join σ l xs)[j]?=l[j]?:=by
 unfold join;rw[arl (by rw[dZ];exact hj)];exact qQ σ l xs j h
section
variable {P:Program} {B:Nat->Prop} {R:PH} {γ:List Gh} {L0 L:List Ob} {w:World} {σ:List Nat}
def aaU (σ:List Nat)(γ:List Gh):List Gh:=σ.map fun i=>γ.getD i .none
theorem ajz (hi:Inv B R γ L w)(hlen:σ.length=L0.length)(QP:∀ (i:Nat) x,L0[i]?=some x->L[jH σ i]?=some (x.ren σ)):FZ σ (aaU σ γ) L0 γ L:=by
 refine⟨by simp[aaU,hlen],fun i h=>?_,QP⟩;have OZ:jH σ i<γ.length:=by rw[hi.len];exact(aq6.1 (QP i _ (arf h))).1
 unfold aaU;rw[arw,kE m0];simp only[Option.map_some];rw[ar_,arf OZ];rfl
theorem abt (hi:Inv B R γ L w)(hlen:σ.length=L0.length)(Yw:σ.Nodup)(QP:∀ (i:Nat) x,L0[i]?=some x->L[jH σ i]?=some (x.ren σ)){R':PH}{w':World}{γ1:List Gh}{L1:List Ob}(h1:Inv (Outside (aaU σ γ) w) R' γ1 L1 w')(he:Ext (Outside (aaU σ γ) w) R R' w w')(hm:Mv R R' (aaU σ γ) γ1 L0 L1) :
  Inv B R' (join σ γ γ1) (joinL σ L L1) w'/\Ext B R R' w w'/\Mv R R' γ (join σ γ γ1) L (joinL σ L L1)/\FZ (ce σ L.length L1.length) γ1 L1 (join σ γ γ1) (joinL σ L L1):=by
 have UT:=ajz hi hlen QP;have UU:∀ k∈σ,k<L.length:=by
  intro k hk;obtain⟨i,Ri,rfl⟩:=List.getElem_of_mem hk;have:jH σ i=σ[i]:=by have:=kE (σ:=σ) Ri;rw[arf Ri]at this;injection this with this;exact this.symm
  rw[<- this];exact UT.lt m0
 have hbg:∀ k∈σ,k<γ.length:=fun k hk=>by rw[hi.len];exact UU k hk
 have hle:L0.length<=L1.length:=hm.len;have e1:FZ (ce σ L.length L1.length) γ1 L1 (join σ γ γ1) (joinL σ L L1):=by
  refine⟨h1.len,fun i h=>?_,fun i x hx=>?_⟩
  ·have:=aep (σ:=σ) (l:=γ) (xs:=γ1) (n:=L.length) (i:=i) hi.len Yw hbg (by rw[h1.len];exact h)
   rw[h1.len]at this;exact this
  ·have OZ:=(aq6.1 hx).1
   have:=aep (σ:=σ) (l:=L) (xs:=L1.map (Ob.ren (ce σ L.length L1.length))) (n:=L.length) (i:=i) rfl Yw UU (by simpa using OZ);rw[arj]at this;unfold joinL;rw[this,arw,hx];rfl
 have VN:(joinL σ L L1).length=L.length+(L1.length-σ.length):=by unfold joinL;rw[join_length,arj]
 have US:∀ i j,i<L1.length->j<L1.length->jH (ce σ L.length L1.length) i=jH (ce σ L.length L1.length) j->i=j:=by
  intro i j Q5 VO e;by_cases a:i<σ.length<;>by_cases b:j<σ.length
  ·rw[qw a,qw b]at e
   have h1:=kE a;have h2:=kE b;rw[<- e]at h2;exact y8 Yw h1 h2
  ·rw[qw a,pU m0 VO]at e
   have:=UU _ (arb (kE a));omega
  ·rw[qw b,pU m0 Q5]at e
   have:=UU _ (arb (kE b));omega
  ·rw[pU m0 Q5,pU m0 VO]at e;omega
 have PK:∀ j,j<(joinL σ L L1).length->(∃ i,i<L1.length/\jH (ce σ L.length L1.length) i=j)\/(j<L.length/\(∀ i,i<L0.length->jH σ i≠j)/\(joinL σ L L1)[j]?=L[j]?/\(join σ γ γ1)[j]?=γ[j]?):=by
  intro j hj;rw[VN]at hj;by_cases hjL:j<L.length
  ·by_cases X6:j∈σ
   ·obtain⟨i,Ri,hq⟩:=List.getElem_of_mem X6
    refine .inl ⟨i,m0,?_⟩;rw[qw Ri];have:=kE (σ:=σ) Ri;rw[arf Ri]at this;injection this with this;rw[<- this];exact hq
   ·have Ph:∀ i∈σ,i≠j:=fun i Ri e=>X6 (by rw[<- e];exact Ri)
    refine .inr ⟨hjL,fun i RI e=>X6 (by rw[<- e];exact arb (kE m0)),BS hjL Ph,BS (by rw[hi.len];exact hjL) Ph⟩
  ·exact .inl ⟨σ.length+(j-L.length),m0,by rw[pU m0 m0];omega⟩
 obtain⟨a,b,c⟩:=agz hi UT h1 he hm e1 (fun i RI=>qw m0) (by rw[VN];omega) (by rw[join_length,VN,hi.len,h1.len]) US PK (fun i RI Q5=>by rw[pU m0 Q5];omega);exact⟨a,b,c,e1⟩
end
def Pure (P:Program)(f:FuncId)(args:List PV)(r:CV):Prop :=
 (∃ fn, P.funcs[f]? = some fn /\ fn.body.isSome = true /\ (fn.name == "runtime.NumGoroutine") = false) /\
 ∀ (R:PH) (w:World) (vs:Array Value),(∀ b o u,R b o=some u->w.cell? ⟨b,o,none⟩=some u)->vs.size=args.length->(∀ (j:Nat) v p,vs[j]?=some v->args[j]?=some p->p.rep R v) ->
  Calls P f vs w fun e w' =>∃ v R',e = .returned v/\Ext (· <w.heap.size) R R' w w'/\(∀ b o u,R' b o=some u->w'.cell? ⟨b,o,none⟩=some u)/\r.rep R' v
def aco (R:PH)(w:World)(es:List (List AC))(k:Nat)(v:Value):Gh->Prop
 |.none=>es=[] /\ ∃ a,v = .slice a 0 0
 |.arr b c=>v = .slice (some ⟨b,0,none⟩) es.length c/\(∃ vs E,w.heap[b]?=some (.cells vs E (0,0))/\vs.size=c*k)/\es.length<=c/\0<k /\ ∀ o,es.length*k<=o->R b o=none
 |.box _=>False
def Im (P:Program)(f:FuncId)(es:List (List AC))(k:Nat)(args:List PV)(Pz:List (List AC)):Prop :=
 (∃ fn, P.funcs[f]? = some fn /\ fn.body.isSome = true /\ (fn.name == "runtime.NumGoroutine") = false) /\
 ∀ (R:PH) (w:World) (v:Value) (vs:Array Value) (g:Gh),(∀ b o u,R b o=some u->w.cell? ⟨b,o,none⟩=some u)->bF R v (.lst es)->(∀ e∈es,e.length=k)->aco R w es k v g->vs.size=args.length->(∀ (j:Nat) v p,vs[j]?=some v->args[j]?=some p->p.rep R v) ->
  Calls P f (#[v]++vs) w fun e w' =>∃ v' R' g',e = .returned v'/\Ext (fun b=>b<w.heap.size/\g.block≠some b) R R' w w'/\(∀ b o u,R' b o=some u->w'.cell? ⟨b,o,none⟩=some u) /\
   bF R' v' (.lst Pz)/\(∀ e∈Pz,e.length=k)/\aco R' w' Pz k v' g' /\ ∀ b,g'.block=some b->w.heap.size<=b\/g.block=some b
def Run (P:Program)(f:FuncId)(L0:List Ob)(args:List AV)(L1:List Ob)(r:AV):Prop :=
 (∃ fn, P.funcs[f]? = some fn /\ fn.body.isSome = true /\ (fn.name == "runtime.NumGoroutine") = false) /\
 ∀ (B:Nat->Prop) (R:PH) (γ:List Gh) (w:World) (vs:Array Value),Inv B R γ L0 w->vs.size=args.length->(∀ (j:Nat) v p,vs[j]?=some v->args[j]?=some p->p.rep R γ L0 v) ->
  Calls P f vs w fun e w' =>∃ v R' γ',e = .returned v/\Inv B R' γ' L1 w'/\Ext B R R' w w'/\Mv R R' γ γ' L0 L1/\r.rep R' γ' L1 v
structure gg (σ:List Nat)(L0:List Ob)(args:List AV)(L:List Ob):Prop where
 len:σ.length=L0.length
 nd:σ.Nodup
 ob:∀ (i:Nat) x,L0[i]?=some x->L[jH σ i]?=some (x.ren σ)
 obb:∀ x∈L0,x.below L0.length
 argb:∀ x∈args,x.below L0.length
def avs (ρ:Operand->Option AV):List Operand->Option (List AV)
 |[]=>some []
 |x::xs=>match ρ x,avs ρ xs with
  |some v,some vs=>some (v::vs)
  |_,_=>none
def Cap.av:Cap->AV
 |.c x => .one (.c x)
 |.ptr id off => .one (.ptr id off)
def ad1 (ti:TI):Operand->Bool
 |.func f=>ti.owns f
 |.tmp _=>ti.dyn
 |_=>false
def dj (ti:TI)(ρ:Operand->Option AV):Op->Option (FuncId×List AV)
 |.call { callee := .value f,args,.. } =>match ad1 ti f,ρ f,avs ρ args.toList with
  |true,some (.one (.c (.fn g cs))),some vs=>some (g,vs++cs.map fun x => .one (.c x))
  |true,some (.one (.clo g caps)),some vs=>some (g,vs++caps.map Cap.av)
  |_,_,_=>none
 |_=>none
def uu (T:Tm):Option Tmp->AV->Tm
 |some d,v=>(d,v)::T
 |none,_=>T
def dOK (N:Nat):Option Tmp->Prop
 |some d=>d<N
 |none=>True
def dT (ρ:Operand->Option AV):List Operand->Option (List PV)
 |[]=>some []
 |x::xs=>match (ρ x).bind AV.norm,dT ρ xs with
  |some p,some ps=>some (p::ps)
  |_,_=>none
def uN (ti:TI)(ρ:Operand->Option AV):Op->Option (AV×Prop)
 |.buildSlice t len parts=>yq ti ρ t len parts.toList
 |_=>none
def qF (ρ:Operand->Option AV):Op->Option (FuncId×List PV)
 |.call { callee := .value f,args,.. } =>match ρ f with
  |some (.one (.c (.fn g cs)))=>(dT ρ args.toList).map fun ps=>(g,ps++cs.map .one)
  |_=>none
 |_=>none
def eT (ti:TI)(ρ:Operand->Option AV):Op->Option (FuncId×List (List AC)×Option Nat×List PV)
 |.call { callee := .value (.func f),args,.. } =>match ti.owns f,args.toList with
  |true,x::xs=>match ρ x,dT ρ xs with
   |some (.one (.own es t)),some ps=>some (f,es,some t,ps)
   |some (.one .emp),some ps=>some (f,[],none,ps)
   |_,_=>none
  |_,_=>none
 |_=>none
def bW (ti:TI):Op->Bool
 |.alloc _=>true
 |.box _ _=>true
 |.store _ _ _=>true
 |.call { callee := .builtin b,.. } =>match b with
  |.append=>true
  |.unsafeString=>true
  |.unsafeSliceData=>true
  |.copy=>true
  |.clear=>true
  |.delete=>true
  |_=>false
 |.call { callee := .value f,.. } =>ad1 ti f
 |.makeSlice _ _ _=>true
 |.makeMap _ _=>true
 |.lookup _ _ _ _=>ti.dyn
 |.buildSlice _ _ _=>ti.dyn
 |.makeFunc _ _ _=>ti.dyn
 |.mapUpdate _ _ _ _=>true
 |.mapEntry _ _ _=>true
 |.entryStore _ _ _ _=>true
 |.insert _ _ _ _=>true
 |.binOp _ t _ _ _=>match ti.kind t with
  |some (.pointer _)=>true
  |some (.map _ _)=>true
  |some (.func _ _ _)=>true
  |some (.slice _)=>true
  |_=>false
 |.convert s d _=>match ti.kind d,ti.kind s with
  |some .unsafePointer,_=>true
  |_,some .unsafePointer=>true
  |_,_=>false
 |_=>false
def sk:Op->Nat
 |.alloc _=>1
 |.box _ _=>1
 |.call { callee := .builtin .append,.. } =>2
 |.store _ _ _=>3
 |.call { callee := .builtin .unsafeSliceData,.. } =>4
 |.lookup _ _ _ _=>4
 |.makeFunc _ _ _=>4
 |.binOp _ _ _ _ _=>4
 |.convert _ _ _=>4
 |_=>0
def qW (P:Program)(ρ:Operand->Option AV)(L:List Ob)(op:Op)(v:AV)(L':List Ob):Prop :=
 ∀ (B:Nat->Prop) (R:PH) (γ:List Gh) (w:World) (ev:Operand->Value) (o:Oper),o.op=op->Inv B R γ L w->(∀ x,x∈op.operands ->∀ v,ρ x=some v->v.rep R γ L (ev x))->((∀ f,ev (.func f) = .func (.func f) #[] #[]) /\ ∀ v,ev (.const v)=v)->ahM P B R γ L L' w (execOp ev o) v
def gO (P:Program)(ti:TI)(ρ:Operand->Option AV)(L:List Ob)(K:AV->List Ob->Prop)(op:Op):Prop :=
 (∃ v φ,pop ti ρ L op=some (v,φ)/\φ/\K v L)\/(∃ v φ,uN ti ρ op=some (v,φ)/\φ/\K v L) \/
 (∃ v L' φ,AH ti ρ L op=some (v,L',φ)/\φ/\K v L')\/(∃ g ps r,qF ρ op=some (g,ps)/\Pure P g ps r/\K r.av L) \/
 (∃ g es t k ps Pz , eT ti ρ op=some (g,es,some t,ps)/\L[t]?=some (.spare es.length k)/\Im P g es k ps Pz/\K (.one (.own Pz L.length)) (L.set t .dead++[.spare Pz.length k])) \/
 (∃ g k ps Pz , eT ti ρ op=some (g,[],none,ps)/\Im P g [] k ps Pz/\K (.one (.own Pz L.length)) (L++[.spare Pz.length k])) \/
 (∃ σ g L0 args L1 r,dj ti ρ op=some (g,args.map (AV.ren σ))/\gg σ L0 args L/\Run P g L0 args L1 r/\K (r.ren (ce σ L.length L1.length)) (joinL σ L L1)) \/
 (∃ v L',(bW ti op=true/\(ti.soft=true->sk op=0\/(sk op=4/\L'=L)))/\qW P ρ L op v L'/\K v L')
def gd (ds:List (Option Tmp))(T:Tm)(A B:Prop):Option (Nat×Bool)->Prop
 |none=>A
 |some (j,want)=>match ds[j]? with
  |some (some d)=>match T.lookup d with
   |some (.one (.c (.bool b)))=>(b=want->A)/\(b=(!want)->B)
   |some .undef=>B
   |_=>False
  |_=>False
def aI (P:Program)(ti:TI)(N:Nat)(ds:List (Option Tmp))(K:Tm->List Ob->Prop):List Oper->Tm->List Ob->Prop
 |[],T,L=>K T L
 |o::rest,T,L=>dOK N o.dst/\gd ds T (gO P ti (look T) L (fun v L'=>aI P ti N ds K rest (uu T o.dst v) L') o.op) (aI P ti N ds K rest (uu T o.dst .undef) L) o.guard
section
variable {P:Program} {ti:TI} {B:Nat->Prop} {N:Nat} {R:PH} {γ:List Gh} {L:List Ob} {w:World}
theorem Inv.tok (hi:Inv B R γ L w)(k:Nat):Inv B R (γ++[.none]) (L++[.spare 0 k]) w:=by
 have Pi:∀ j h,(γ++[Gh.none])[j]?=some h->(j=γ.length/\h = .none)\/(j<γ.length/\γ[j]?=some h):=by
  intro j h hh;by_cases hid:j<γ.length
  ·rw[arl hid]at hh;exact .inr ⟨hid,hh⟩
  ·have:j=γ.length:=by have:=(aq6.1 hh).1;simp at this;omega
   subst this;rw[arc m0]at hh;simp at hh;exact .inl ⟨rfl,hh.symm⟩
 refine⟨by simp[hi.len],hi.val,fun id y h hy hh=>?_,fun j1 j2 g1 g2 h1 h2 Ph b hb=>?_,fun j h b hh hb=>?_,hi.bsz⟩
 ·rcases Pi id h hh with⟨rfl,rfl⟩|⟨OZ,Sv⟩
  ·rw[arc (by rw[hi.len];omega),hi.len]at hy
   simp at hy;subst hy;rfl
  ·rw[arl (by rw[<- hi.len];exact OZ)]at hy
   exact(hi.obj id y h hy Sv).mv (Mv.push _ _ hi.len) (fun _ _=>rfl) (fun _ _ _ h=>h)
 ·rcases Pi j1 g1 h1 with⟨_,rfl⟩|⟨_,a2⟩
  ·cases hb
  ·rcases Pi j2 g2 h2 with⟨_,rfl⟩|⟨_,b2⟩
   ·intro e;cases e
   ·exact hi.inj j1 j2 g1 g2 a2 b2 Ph b hb
 ·rcases Pi j h hh with⟨_,rfl⟩|⟨_,a2⟩
  ·cases hb
  ·exact hi.new j h b a2 hb
theorem JC (O2:TIok P ti)(hi:Inv B R γ L w){t tx ty:TypeId}{s x:AV}{us ux:Value}(hs:s.rep R γ L us)(hx:x.rep R γ L ux){v:AV}{L':List Ob}{φ:Prop}(h:sC ti L t tx s x=some (v,L',φ))(hφ:φ) :
  ∃ u w' R' γ',(Builtin.append_ #[t,tx] ty #[us,ux]).run P w = .ok u w'/\Inv B R' γ' L' w'/\Ext B R R' w w'/\Mv R R' γ γ' L L'/\v.rep R' γ' L' u:=by
 unfold sC at h;split at h
 ·rename_i xs E SZ hE
  have hpx:=jo hx SZ;have hE:=O2.elem _ _ hE;have ht:P.underlying t=some (.slice E):=by
   unfold pE at hE;split at hE
   ·rename_i e he;injection hE with hE;subst hE;exact he
   ·cases hE
  have Xa:(ti.elem tx).isSome ->∃ E',P.underlying tx=some (.slice E'):=by
   intro h;obtain⟨e,he⟩:=arR.1 h;have h:=O2.elem _ _ he;unfold pE at h;split at h
   ·rename_i e he;exact⟨e,he⟩
   ·cases h
  split at h
  ·rename_i k by_ hk hb
   have hk:=O2.size _ _ hk;have hb:=O2.bytes _ _ hb;split at h
   ·injection h with h;injection h with e1 e2;injection e2 with e2 e3;subst e1 e2 e3
    obtain⟨h1,h2,h3,h4,h5,h6⟩:=hφ;obtain⟨E',hE'⟩:=Xa h1;obtain⟨a,rfl⟩:=hs;have Q5:=hi.tok k;have hm1:Mv R R γ (γ++[.none]) L (L++[.spare 0 k]):=Mv.push _ _ hi.len;have hL1:(L++[Ob.spare 0 k])[L.length]?=some (.spare 0 k):=by simp
    have QJ:(SV.own [] L.length).rep R (γ++[.none]) (L++[.spare 0 k]) (.slice a 0 0) :=
     ⟨dE _ _ _,m5,fun n2 k2 _=>⟨m5,m5,fun _=>⟨.none,by rw[<- hi.len];simp,a,m5⟩⟩⟩
    obtain⟨u,w',R',γ',a1,a2,a3,a4,a5⟩:=adI (P:=P) (ty:=ty) Q5 ht hE' h2 (O2.zok _ h3 _ hk) hb hL1 QJ rfl hpx h4 (by simpa using h5) (by simpa using h6);have Rz:(L++[Ob.spare 0 k]).set L.length (.spare (0+xs.length) k)=L++[.spare xs.length k]:=by simp
    rw[Rz]at a2 a4 a5;exact⟨u,w',R',γ',a1,a2,a3,hm1.trans a4,by rw[ara]at a5;exact a5⟩
   ·rename_i es i
    split at h
    ·rename_i n k' hL
     injection h with h;injection h with e1 e2;injection e2 with e2 e3;subst e1 e2 e3
     obtain⟨h1,h2,h3,h4,h5,h6,h7⟩:=hφ;obtain⟨E',hE'⟩:=Xa h1;subst h2;obtain⟨u,w',R',γ',a1,a2,a3,a4,a5⟩:=adI (P:=P) (ty:=ty) hi ht hE' h4.2 (O2.zok _ h4.1 _ hk) hb hL hs h3 hpx h5 h6 h7;exact⟨u,w',R',γ',a1,a2,a3,a4,a5⟩
    ·cases h
   ·cases h
  ·cases h
 ·cases h
theorem Inv.later (hi:Inv B R γ L w){R':PH}{w':World}(he:Ext (· <w.heap.size) R R' w w')(hv:∀ b o u,R' b o=some u->w'.cell? ⟨b,o,none⟩=some u):Inv B R' γ L w'/\Ext B R R' w w':=by
 refine⟨⟨hi.len,hv,fun id x g hx hg=>?_,hi.inj,fun i g b hg hb=>?_,fun b hb=>arO (hi.bsz b hb) he.below.size⟩,he.below.mono hi.bsz,he.sub,fun b o hb=>he.old b o (hi.bsz b hb)⟩
 ·refine(hi.obj id x g hx hg).mv (Mv.of_sub he.sub) (fun b hb=>he.below.block b (hi.new id g b hg hb).2) (fun b o hb e=>?_)
  rw[he.old b o (hi.new id g b hg hb).2];exact e
 ·have h1:=hi.new i g b hg hb
  have:=he.below.size;exact⟨h1.1,m0⟩
theorem kT {ρ:Operand->Option AV}{a:Act}(hρ:∀ x v,ρ x=some v->v.rep R γ L (a.eval x)):∀ {xs:List Operand} {ps:List PV},dT ρ xs=some ps ->
  xs.length=ps.length /\ ∀ (j:Nat) x p,xs[j]?=some x->ps[j]?=some p->p.rep R (a.eval x)
 |[],ps,h=>by injection h with h;subst h;exact⟨rfl,fun j x p hx=>by simp at hx⟩
 |x::xs,ps,h=>by
  unfold dT at h;split at h
  ·rename_i p Yx hp TB
   injection h with h;subst h
   obtain⟨g1,g2⟩:=kT hρ TB;refine⟨by simp[g1],fun j y q hy hq=>?_⟩
   cases j with
   |zero =>
    simp at hy hq;subst hy hq
    cases hx:ρ x with
    |none=>simp[hx]at hp
    |some vx=>simp only[hx,aq5]at hp;exact AV.norm_rep (hρ _ _ hx) hp
   |succ j=>exact g2 j y q (by simpa using hy) (by simpa using hq)
  ·cases h
theorem Nn (O2:TIok P ti)(hi:Inv B R γ L w){a:Act}{ρ:Operand->Option AV}(hρ:∀ x v,ρ x=some v->v.rep R γ L (a.eval x)){o:Oper}{v:AV}{φ:Prop}(h:uN ti ρ o.op=some (v,φ))(hφ:φ):sq P B R γ L w (execOp a.eval o) v:=by
 obtain⟨dst,op,type,pos,after,guard⟩:=o;simp only at h;unfold uN at h;split at h
 ·rename_i t len parts
  obtain⟨u,w',R',h1,h2,h3,h4⟩:=KZ O2 hi hρ h hφ;refine⟨u,w',R',?_,h2,h3,h4⟩;simp only[execOp,Sem.run_bind];rw[h1];rfl
 ·cases h
theorem agc (O2:TIok P ti)(hi:Inv B R γ L w){a:Act}{ρ:Operand->Option AV}(hρ:∀ x v,ρ x=some v->v.rep R γ L (a.eval x)){o:Oper}{v:AV}{L':List Ob}{φ:Prop}(h:AH ti ρ L o.op=some (v,L',φ))(hφ:φ):ahM P B R γ L L' w (execOp a.eval o) v:=by
 have TC:∀ {xs:List SV} {vs:Array Value} (E:TypeId),Gk R γ L xs vs->(execOp a.eval o).run P w = .ok (.value (.pointer (some ⟨w.heap.size,0,none⟩))) (w.alloc (.cells vs E))->ahM P B R γ L (L++[.box xs]) w (execOp a.eval o) (.one (.ptr L.length 0)):=by
  intro xs vs E hc hr;obtain⟨h1,h2⟩:=afr hi E hc;exact⟨_,R,_,.inl ⟨_,hr,h2⟩,h1,⟨Kept.alloc hi.bsz _,PH.sub_refl _,fun _ _ _=>rfl⟩,Mv.push _ _ hi.len⟩
 obtain⟨dst,op,type,pos,after,guard⟩:=o;simp only at h TC;unfold AH at h;split at h
 ·rename_i E
  split at h
  ·rename_i zs hz
   injection h with h;injection h with e1 e2;injection e2 with e2 e3;subst e1 e2
   cases hz0:ti.zero E with
   |none=>simp[hz0]at hz
   |some za0 =>
    simp only[hz0,aq5]at hz;have Ul:=O2.zero _ _ hz0;unfold zeroOf at Ul
    cases PE:P.info? E with
    |none=>simp[PE]at Ul
    |some inf =>
     simp only[PE,aq5]at Ul
     cases Rk:inf.zero with
     |none=>simp[Rk]at Ul
     |some z =>
      simp only[Rk,aq5]at Ul;refine TC E (cells_rep (AV.ofVal_rep Ul) hz) ?_;simp[execOp,Instr.alloc,zeroValue,typeInfo,program,Sem.run,PE,Rk,newVar,newRow]
  ·cases h
 ·rename_i E x
  split at h
  ·rename_i xs hx
   injection h with h;injection h with e1 e2;injection e2 with e2 e3;subst e1 e2
   cases UV:ρ x with
   |none=>simp[UV]at hx
   |some vx =>
    simp only[UV,aq5]at hx;refine TC E (cells_rep (hρ _ _ UV) hx) ?_;simp[execOp,Instr.box,newVar,newRow]
  ·cases h
 ·rename_i t p x
  split at h
  ·rename_i id off xs hrp hx
   split at h
   ·rename_i cs hL
    injection h with h;injection h with e1 e2;injection e2 with e2 e3;subst e1 e2 e3
    obtain⟨b,Qj,hg⟩:=hρ _ _ hrp
    cases UV:ρ x with
    |none=>simp[UV]at hx
    |some vx =>
     simp only[UV,aq5]at hx;have hc:=cells_rep (hρ _ _ UV) hx;have h1:∀ c∈(a.eval x).cells,c.oneCell'=true:=by
      intro c X7;obtain⟨j,hj⟩:=Array.mem_iff_getElem?.1 X7;have OZ:j<xs.length:=by rw[<- hc.1];exact(arU.1 hj).1
      exact(SV.rep_one (hc.2 j c _ hj (arf OZ))).2
     obtain⟨w',g1,g2,g3,g4⟩:=NI (P:=P) (t:=t) hi hL hg hc h1 hφ.1 (O2.size _ _ hφ.2);have hr:(execOp a.eval { dst,op := .store t p x,type,pos,after,guard }).run P w = .ok .skip w':=by
      simp only[execOp,Sem.run_bind,Qj];rw[g1];rfl
     exact⟨w',R,γ,.inr ⟨hr,rfl⟩,g2,g3,g4⟩
   ·cases h
  ·rename_i id OY i o xs hrp hx
   split at h
   ·rename_i O9 es k hL
    split at h
    case h_2=>cases h
    rename_i e he;injection h with h;injection h with e1 e2;injection e2 with e2 e3;subst e1 e2 e3
    obtain⟨hve,hle,hts⟩:=hφ;subst hve;have Qj:=hρ _ _ hrp
    cases UV:ρ x with
    |none=>simp[UV]at hx
    |some vx =>
     simp only[UV,aq5]at hx;have hc:=cells_rep (hρ _ _ UV) hx;have h1:∀ c∈(a.eval x).cells,c.oneCell'=true:=by
      intro c X7;obtain⟨j,hj⟩:=Array.mem_iff_getElem?.1 X7;have OZ:j<xs.length:=by rw[<- hc.1];exact(arU.1 hj).1
      exact(SV.rep_one (hc.2 j c _ hj (arf OZ))).2
     obtain⟨w',g1,g2,g3,g4⟩:=C0 (P:=P) (t:=t) hi hL Qj he hc h1 hle (O2.size _ _ hts);have hr:(execOp a.eval { dst,op := .store t p x,type,pos,after,guard }).run P w = .ok .skip w':=by
      simp only[execOp,Sem.run_bind];rw[g1];rfl
     exact⟨w',R,γ,.inr ⟨hr,rfl⟩,g2,g3,g4⟩
   ·cases h
  ·cases h
 ·rename_i args argTypes
  split at h
  ·rename_i s x t tx ha ht
   split at h
   ·rename_i vs vx hs hx
    obtain⟨u,w',R',γ',g1,g2,g3,g4,g5⟩:=JC (P:=P) (ty:=type) O2 hi (hρ _ _ hs) (hρ _ _ hx) h hφ;have e1:args=#[s,x]:=by cases args;simp_all
    have e2:argTypes=#[t,tx]:=by cases argTypes;simp_all
    subst e1 e2;refine⟨w',R',γ',.inl ⟨u,?_,g5⟩,g2,g3,g4⟩;simp[execOp,resolve,invoke,builtin,g1]
   ·cases h
  ·cases h
 ·cases h
theorem F3 {ρ:Operand->Option AV}{op:Op}{f:FuncId}{es:List (List AC)}{t:Nat}{ps:List PV}(h:eT ti ρ op=some (f,es,some t,ps)) :
  ∃ args ts x xs,op = .call { callee := .value (.func f),args,argTypes:=ts } /\ args.toList=x::xs/\ρ x=some (.one (.own es t))/\dT ρ xs=some ps:=by
 unfold eT at h;split at h
 ·rename_i f' args ts
  split at h
  ·rename_i x xs ho SZ
   split at h
   ·rename_i Pz t' Yx hx TB
    injection h with h;injection h with e1 e2;injection e2 with e2 e3;injection e3 with e3 e4;injection e3 with e3
    subst e1 e2 e3 e4;exact⟨args,ts,x,xs,rfl,SZ,hx,TB⟩
   ·rename_i Yx hx TB
    injection h with h;injection h with e1 e2;injection e2 with e2 e3;injection e3 with e3 e4;cases e3
   ·cases h
  ·cases h
 ·cases h
theorem Ft {ρ:Operand->Option AV}{op:Op}{f:FuncId}{ps:List PV}(h:eT ti ρ op=some (f,[],none,ps)) :
  ∃ args ts x xs,op = .call { callee := .value (.func f),args,argTypes:=ts } /\ args.toList=x::xs/\ρ x=some (.one .emp)/\dT ρ xs=some ps:=by
 unfold eT at h;split at h
 ·rename_i f' args ts
  split at h
  ·rename_i x xs ho SZ
   split at h
   ·rename_i Pz t' Yx hx TB
    injection h with h;injection h with e1 e2;injection e2 with e2 e3;injection e3 with e3 e4;cases e3
   ·rename_i Yx hx TB
    injection h with h;injection h with e1 e2;injection e2 with e2 e3;injection e3 with e3 e4
    subst e1 e4;exact⟨args,ts,x,xs,rfl,SZ,hx,TB⟩
   ·cases h
  ·cases h
 ·cases h
theorem Iz {f : FuncId} {fn : Func} {a : Act} {dst : Option Tmp} {type : TypeId} {pos : String} {after : Array Edge} {guard : Option (Nat × Bool)} {args : Array Operand} {argTypes : Array TypeId} (VP : P.funcs[f]? = some fn) (Sz : fn.body.isSome = true) (PP : (fn.name == "runtime.NumGoroutine") = false) :
  (execOp a.eval { dst,op := .call { callee := .value (.func f),args,argTypes },type,pos,after,guard }).run P w = .ok (.enter f (args.map a.eval)) w:=by
 have hb:fn.body.isNone=false:=by cases T8:fn.body<;>simp_all
 simp only[execOp,resolve,Act.eval,Deferred.ofValue,Sem.run_bind,Sem.run_pure,Result.andThen_ok,invoke,callFunc,program,Sem.run];simp[VP,PP,hb]
theorem give (hi:Inv B R γ L w){k n' s:Nat}{g':Gh}{Pz:List (List AC)}{v':Value}(hB:∀ b,B b->b<s)(hold:∀ (i:Nat) h b,γ[i]?=some h->h.block=some b->b<s)(hp:bF R v' (.lst Pz))(hw':∀ e∈Pz,e.length=k)(ho:aco R w Pz k v' g')(Xb:∀ b,g'.block=some b->s<=b)(hn:Pz.length=n') :
  ∃ γ',Inv B R γ' (L++[.spare n' k]) w/\Mv R R γ γ' L (L++[.spare n' k])/\(SV.own Pz L.length).rep R γ' (L++[.spare n' k]) v':=by
 subst hn;have Pi:∀ j h,(γ++[g'])[j]?=some h->(j<γ.length/\γ[j]?=some h)\/(j=γ.length/\h=g'):=by
  intro j h hh;by_cases hj:j<γ.length
  ·rw[arl hj]at hh;exact .inl ⟨hj,hh⟩
  ·have:j=γ.length:=by have:=(aq6.1 hh).1;simp at this;omega
   subst this;rw[arc m0]at hh;simp at hh;exact .inr ⟨rfl,hh.symm⟩
 have hm:Mv R R γ (γ++[g']) L (L++[.spare Pz.length k]):=Mv.push _ _ hi.len;refine⟨γ++[g'],⟨by simp[hi.len],hi.val,fun id x h hx hh=>?_,fun j1 j2 g1 g2 h1 h2 Ph b hb=>?_,fun j h b hh hb=>?_,hi.bsz⟩,hm,hp,m5,fun n2 k2 e2=>?_⟩
 ·rcases Pi id h hh with⟨hj,Sv⟩|⟨rfl,rfl⟩
  ·rw[arl (by rw[<- hi.len];exact hj)]at hx
   exact(hi.obj id x h hx Sv).mv hm (fun _ _=>rfl) (fun _ _ _ h=>h)
  ·rw[arc (by rw[hi.len];omega)]at hx
   simp[hi.len]at hx;subst hx
   match h,ho with
   |.none,⟨h0,_⟩=>rw[h0];rfl
   |.arr b c,⟨_,⟨vs,E,a1,a2⟩,a3,a4,a5⟩=>exact⟨⟨vs,E,a1,a2⟩,a3,a4,a5⟩
 ·rcases Pi j1 g1 h1 with⟨a1,a3⟩|⟨a1,rfl⟩<;>rcases Pi j2 g2 h2 with⟨b1,b3⟩|⟨b1,rfl⟩
  ·exact hi.inj j1 j2 g1 g2 a3 b3 Ph b hb
  ·intro e;have h1:=Xb b e;have h2:=hold j1 g1 b a3 hb;omega
  ·intro e;have h1:=Xb b hb;have h2:=hold j2 g2 b b3 e;omega
  ·omega
 ·rcases Pi j h hh with⟨a1,a3⟩|⟨a1,rfl⟩
  ·exact hi.new j h b a3 hb
  ·have Py:b<w.heap.size:=by
    match h,ho,hb with
    |.arr b' c,⟨_,⟨vs,E,a1,_⟩,_⟩,hb=>injection hb with hb;subst hb;exact(arU.1 a1).1
   exact⟨fun hBb=>by have h1:=hB b hBb;have h2:=Xb b hb;omega,Py⟩
 ·rw[arc m0]at e2
  simp at e2;obtain⟨rfl,rfl⟩:=e2;refine⟨aro _,hw',fun _=>⟨g',?_,?_⟩⟩
  ·rw[arc (by rw[hi.len];omega)];simp[hi.len]
  ·match g',ho with
   |.none,⟨h0,ha⟩=>exact ha
   |.arr b c,⟨h0,_⟩=>exact h0
theorem ag3 (hi:Inv B R γ L w){t n k n':Nat}{g g':Gh}{R':PH}{w':World}{Pz:List (List AC)}{v':Value}(hL:L[t]?=some (.spare n k))(hg:γ[t]?=some g)(he:Ext (fun b=>b<w.heap.size/\g.block≠some b) R R' w w')
  (hv:∀ b o u,R' b o=some u->w'.cell? ⟨b,o,none⟩=some u) (hp:bF R' v' (.lst Pz)) (hw':∀ e∈Pz,e.length=k) (ho:aco R' w' Pz k v' g') (Xb:∀ b,g'.block=some b->w.heap.size<=b\/g.block=some b) (hn:Pz.length=n') :
  ∃ γ',Inv B R' γ' (L.set t .dead++[.spare n' k]) w'/\Ext B R R' w w'/\Mv R R' γ γ' L (L.set t .dead++[.spare n' k])/\(SV.own Pz L.length).rep R' γ' (L.set t .dead++[.spare n' k]) v':=by
 subst hn;have OZ:t<L.length:=(aq6.1 hL).1;have hltg:t<γ.length:=by rw[hi.len];exact OZ
 have hgnb:g ≠ .none ->∀ b,g.block=some b->b<w.heap.size /\ ¬ B b:=fun _ b hb=>⟨(hi.new t g b hg hb).2,(hi.new t g b hg hb).1⟩
 have Pi:∀ j h,(γ.set t Gh.none++[g'])[j]?=some h->(j=t/\h = .none)\/(j<γ.length/\j≠t/\γ[j]?=some h)\/(j=γ.length/\h=g'):=by
  intro j h hh;by_cases hj:j<γ.length
  ·rw[arl (by simpa using hj)]at hh
   by_cases hjt:j=t
   ·subst hjt;rw[ars hltg]at hh;injection hh with hh;exact .inl ⟨rfl,hh.symm⟩
   ·rw[art (Ne.symm hjt)]at hh;exact .inr (.inl ⟨hj,hjt,hh⟩)
  ·have:j=γ.length:=by have:=(aq6.1 hh).1;simp at this;omega
   subst this;rw[arc m5]at hh;simp at hh;exact .inr (.inr ⟨rfl,hh.symm⟩)
 have hm:Mv R R' γ (γ.set t .none++[g']) L (L.set t .dead++[.spare Pz.length k]):=by
  refine⟨he.sub,m5,fun t' n' k' PL h=>?_,fun t' OY UB k' PL h=>?_,fun id b h=>?_⟩
  ·rw[arl (by simpa using PL)]at h
   by_cases Xc:t'=t
   ·subst Xc;rw[ars OZ]at h;cases h
   ·rw[art (Ne.symm Xc)]at h
    exact⟨n',h,aro _,fun _=>by rw[arl (by simp;rw[hi.len];exact PL),art (Ne.symm Xc)]⟩
  ·rw[arl (by simpa using PL)]at h
   by_cases Xc:t'=t
   ·subst Xc;rw[ars OZ]at h;cases h
   ·rw[art (Ne.symm Xc)]at h
    exact⟨OY,UB,h,aro _,fun _=>⟨rfl,by rw[arl (by simp;rw[hi.len];exact PL),art (Ne.symm Xc)]⟩⟩
  ·have Ph:id≠t:=by
    rintro rfl;exact hi.obj id _ _ hL h
   rw[arl (by simp;exact(aq6.1 h).1),art (Ne.symm Ph)];exact h
 have Pm:∀ j h b,j≠t->γ[j]?=some h->h.block=some b->b<w.heap.size/\g.block≠some b:=fun j h b Ph hh hb=>⟨(hi.new j h b hh hb).2,hi.inj j t h g hh hg Ph b hb⟩
 refine⟨γ.set t .none++[g'],⟨by simp[hi.len],hv,fun id x h hx hh=>?_,fun j1 j2 g1 g2 h1 h2 Ph b hb=>?_,fun j h b hh hb=>?_,fun b hb=>arO (hi.bsz b hb) he.below.size⟩,?_,hm,hp,m5,fun n2 k2 e2=>?_⟩
 ·rcases Pi id h hh with⟨rfl,rfl⟩|⟨hj,Ph,Sv⟩|⟨rfl,rfl⟩
  ·rw[arl (by simpa using OZ),ars OZ]at hx
   injection hx with hx;subst hx;trivial
  ·rw[arl (by simp;rw[<- hi.len];exact hj),art (Ne.symm Ph)]at hx
   exact(hi.obj id x h hx Sv).mv hm (fun b hb=>he.below.block b (Pm id h b Ph Sv hb)) (fun b o hb e=>by rw[he.old b o (Pm id h b Ph Sv hb)];exact e)
  ·rw[arc (by simp[hi.len])]at hx
   simp[hi.len]at hx;subst hx
   match h,ho with
   |.none,⟨h0,_⟩=>rw[h0];rfl
   |.arr b c,⟨_,⟨vs,E,a1,a2⟩,a3,a4,a5⟩=>exact⟨⟨vs,E,a1,a2⟩,a3,a4,a5⟩
 ·rcases Pi j1 g1 h1 with⟨_,rfl⟩|⟨a1,a2,a3⟩|⟨a1,rfl⟩
  ·cases hb
  ·rcases Pi j2 g2 h2 with⟨_,rfl⟩|⟨b1,b2,b3⟩|⟨b1,rfl⟩
   ·intro e;cases e
   ·exact hi.inj j1 j2 g1 g2 a3 b3 Ph b hb
   ·intro e
    rcases Xb b e with h|h
    ·have:=(hi.new j1 g1 b a3 hb).2;omega
    ·exact(Pm j1 g1 b a2 a3 hb).2 h
  ·rcases Pi j2 g2 h2 with⟨_,rfl⟩|⟨b1,b2,b3⟩|⟨b1,rfl⟩
   ·intro e;cases e
   ·intro e
    rcases Xb b hb with h|h
    ·have:=(hi.new j2 g2 b b3 e).2;omega
    ·exact(Pm j2 g2 b b2 b3 e).2 h
   ·omega
 ·rcases Pi j h hh with⟨_,rfl⟩|⟨a1,a2,a3⟩|⟨a1,rfl⟩
  ·cases hb
  ·have:=hi.new j h b a3 hb
   exact⟨this.1,arO this.2 he.below.size⟩
  ·have Py:b<w'.heap.size:=by
    match h,ho,hb with
    |.arr b' c,⟨_,⟨vs,E,a1,_⟩,_⟩,hb=>injection hb with hb;subst hb;exact(arU.1 a1).1
   refine⟨fun hB=>?_,Py⟩;rcases Xb b hb with h'|h'
   ·have:=hi.bsz b hB;omega
   ·exact(hi.new t g b hg h').1 hB
 ·exact⟨he.below.mono fun b hB=>⟨hi.bsz b hB,fun e=>(hi.new t g b hg e).1 hB⟩,he.sub,fun b o hB=>he.old b o ⟨hi.bsz b hB,fun e=>(hi.new t g b hg e).1 hB⟩⟩
 ·rw[arc m5]at e2
  simp at e2;obtain⟨rfl,rfl⟩:=e2;refine⟨aro _,hw',fun _=>⟨g',?_,?_⟩⟩
  ·rw[arc (by simp[hi.len])];simp[hi.len]
  ·match g',ho with
   |.none,⟨h0,ha⟩=>exact ha
   |.arr b c,⟨h0,_⟩=>exact h0
theorem aem {ρ:Operand->Option AV}{a:Act}(hρ:∀ x v,ρ x=some v->v.rep R γ L (a.eval x)):∀ {xs:List Operand} {vs:List AV},avs ρ xs=some vs->xs.length=vs.length /\ ∀ (j:Nat) y v,xs[j]?=some y->vs[j]?=some v->v.rep R γ L (a.eval y)
 |[],vs,h=>by injection h with h;subst h;exact⟨rfl,fun j y v hy=>by simp at hy⟩
 |x::xs,vs,h=>by
  unfold avs at h;split at h
  ·rename_i v0 vs0 h1 h2
   injection h with h;subst h
   obtain⟨g1,g2⟩:=aem hρ h2;refine⟨by simp[g1],fun j y v hy hv=>?_⟩
   cases j with
   |zero=>simp at hy hv;subst hy hv;exact hρ _ _ h1
   |succ j=>exact g2 j y v (by simpa using hy) (by simpa using hv)
  ·cases h
theorem GF {ρ:Operand->Option AV}{a:Act}(hρ:∀ x v,ρ x=some v->v.rep R γ L (a.eval x)){op:Op}{g:FuncId}{TD:List AV}(h:dj ti ρ op=some (g,TD)) :
  ∃ f args ts caps,op = .call { callee := .value f,args,argTypes:=ts } /\ a.eval f = .func (.func g) #[] caps/\(args.map a.eval++caps).size=TD.length /\ ∀ (j:Nat) v p,(args.map a.eval++caps)[j]?=some v->TD[j]?=some p->p.rep R γ L v:=by
 have fin:∀ (args:Array Operand) (vs:List AV) (caps:Array Value) (cs:List AV),avs ρ args.toList=some vs->caps.size=cs.length->(∀ (j:Nat) v p,caps[j]?=some v->cs[j]?=some p->p.rep R γ L v) ->
   (args.map a.eval++caps).size=(vs++cs).length /\ ∀ (j:Nat) v p,(args.map a.eval++caps)[j]?=some v->(vs++cs)[j]?=some p->p.rep R γ L v:=by
  intro args vs caps cs hv hc hr;obtain⟨g1,g2⟩:=aem hρ hv;have g1':args.size=vs.length:=by simpa using g1
  refine⟨by simp;omega,fun j v p hv hp=>?_⟩;by_cases hj:j<vs.length
  ·rw[arl hj]at hp
   rw[Array.getElem?_append_left m8,Array.getElem?_map]at hv
   cases hq:args[j]? with
   |none=>simp[hq]at hv
   |some y=>rw[hq]at hv;simp only[Option.map_some,Option.some.injEq]at hv;subst hv;exact g2 j y p (by simpa using hq) hp
  ·rw[arc m0]at hp
   rw[Array.getElem?_append_right m8]at hv;simp only[Array.size_map]at hv;rw[g1']at hv;exact hr _ v p hv hp
 unfold dj at h;split at h
 case h_2=>cases h
 rename_i f args ts;split at h
 ·rename_i g0 cs vs _ hf hv
  injection h with h;injection h with e1 e2;subst e1 e2
  have QM:=hρ _ _ hf;generalize WA:a.eval f=fv at QM
  cases QM with
  |fn _ caps _ hs he =>
   refine⟨f,args,ts,caps,rfl,WA,fin args vs caps _ hv (by simpa using hs) fun j v p h1 h2=>?_⟩;rw[arw]at h2
   cases hq:cs[j]? with
   |none=>simp[hq]at h2
   |some y=>simp[hq]at h2;subst h2;exact he j v y h1 hq
 ·rename_i g0 caps vs _ hf hv
  injection h with h;injection h with e1 e2;subst e1 e2
  obtain⟨us,h1,h2,h3⟩:=hρ _ _ hf;refine⟨f,args,ts,us,rfl,h1,fin args vs us _ hv (by simpa using h2) fun j v p q1 q2=>?_⟩;rw[arw]at q2
  cases hq:caps[j]? with
  |none=>simp[hq]at q2
  |some y =>
   simp[hq]at q2;subst q2;have:=h3 j v y q1 hq
   cases y with
   |c y=>exact this
   |ptr id off=>exact this
 ·cases h
theorem lI (O2:TIok P ti)(hi:Inv B R γ L w){a:Act}{ρ:Operand->Option AV}(hρ:∀ x v,ρ x=some v->v.rep R γ L (a.eval x)){o:Oper}{K:AV->List Ob->Prop}{next:Act->World->Prop}{Q:Exit->Act->World->Prop}
  (h:gO P ti ρ L K o.op)
  (hK:∀ v L' R' γ' w' u,K v L'->Inv B R' γ' L' w'->Ext B R R' w w'->Mv R R' γ γ' L L'->v.rep R' γ' L' u->next (a.put o.dst u) w'):o.wp P a w next Q:=by
 rcases h with⟨v,φ,hp,hφ,hk⟩|⟨v,φ,hp,hφ,hk⟩|⟨v,L',φ,hp,hφ,hk⟩|⟨g,ps,r,hc,hP,hk⟩|⟨g,es,t,k,ps,Pz,hc,hLt,hP,hk⟩|⟨g,k,ps,Pz,hc,hP,hk⟩|⟨σ,g,L0,TD,L1,r,hc,hF,hP,hk⟩|⟨v,L',_,hs,hk⟩
 ·obtain⟨u,w',R',h1,h2,h3,h4⟩:=agw O2 hi hρ hp hφ
  unfold Oper.wp;rw[h1];exact hK v L R' γ w' u hk h2 h3 (Mv.of_sub h3.sub) h4
 ·obtain⟨u,w',R',h1,h2,h3,h4⟩:=Nn O2 hi hρ hp hφ
  unfold Oper.wp;rw[h1];exact hK v L R' γ w' u hk h2 h3 (Mv.of_sub h3.sub) h4
 ·obtain⟨w',R',γ',h1,h2,h3,h4⟩:=agc O2 hi hρ hp hφ
  unfold Oper.wp;rcases h1 with⟨u,h1,h5⟩|⟨h1,rfl⟩
  ·rw[h1]
   exact hK v L' R' γ' w' u hk h2 h3 h4 h5
  ·rw[h1]
   exact hK .undef L' R' γ' w' Go.undef hk h2 h3 h4 rfl
 ·obtain⟨dst,op,type,pos,after,guard⟩:=o
  simp only at hc hK;unfold qF at hc;split at hc
  ·rename_i f args argTypes
   split at hc
   ·rename_i g0 cs hf
    cases TB:dT ρ args.toList with
    |none=>simp[TB]at hc
    |some ps0 =>
     rw[TB]at hc;injection hc with hc;injection hc with e1 e2;subst e1 e2
     obtain⟨⟨fn,VP,Sz,PP⟩,QF⟩:=hP;have QM:=hρ _ _ hf;generalize WA:a.eval f=fv at QM
     cases QM with
     |fn _ caps _ hs he =>
      obtain⟨g1,g2⟩:=kT hρ TB;have hr:(execOp a.eval { dst,op := .call { callee := .value f,args,argTypes },type,pos,after,guard }).run P w = .ok (.enter g0 (args.map a.eval++caps)) w:=by
       have hb:fn.body.isNone=false:=by cases T8:fn.body<;>simp_all
       simp only[execOp,resolve,WA,Deferred.ofValue,Sem.run_bind,Sem.run_pure,Result.andThen_ok,invoke,callFunc,program,Sem.run];simp[VP,PP,hb]
      unfold Oper.wp;rw[hr];refine(QF R w (args.map a.eval++caps) hi.val (by simp[hs];simpa using g1) (fun j v p hv hp=>?_)).mono (fun e w' hh=>?_)
      ·by_cases hj:j<ps0.length
       ·rw[arl hj]at hp
        rw[Array.getElem?_append_left (by simp;have:=g1;simp at this;omega),Array.getElem?_map]at hv
        cases hq:args[j]? with
        |none=>simp[hq]at hv
        |some y =>
         rw[hq]at hv;simp only[Option.map_some,Option.some.injEq]at hv;subst hv;exact g2 j y p (by simpa using hq) hp
       ·have Q8:args.size=ps0.length:=by simpa using g1
        rw[arc m0,arw]at hp;rw[Array.getElem?_append_right m8]at hv;simp only[Array.size_map]at hv;rw[Q8]at hv
        cases hq:cs[j-ps0.length]? with
        |none=>simp[hq]at hp
        |some y =>
         rw[hq]at hp;simp only[Option.map_some,Option.some.injEq]at hp;subst hp;exact he _ v y hv hq
      ·obtain⟨v,R',rfl,h1,h2,h3⟩:=hh
       obtain⟨i1,i2⟩:=hi.later h1 h2;exact hK r.av L R' γ w' v hk i1 i2 (Mv.of_sub h1.sub) (CV.av_rep h3)
   ·cases hc
  ·cases hc
 ·obtain⟨dst,op,type,pos,after,guard⟩:=o
  simp only at hc hK;obtain⟨args,argTypes,x,xs,rfl,SZ,hx,TB⟩:=F3 hc;obtain⟨⟨fn,VP,Sz,PP⟩,QF⟩:=hP;obtain⟨g1,g2⟩:=kT hρ TB;have Vt:=hρ _ _ hx;obtain⟨Qj,OZ,PK⟩:=Vt;obtain⟨_,Yy,UR⟩:=PK _ _ hLt;obtain⟨gh,hgh,TA⟩:=UR rfl;have QP:=hi.obj t _ _ hLt hgh;have hown:aco R w es k (a.eval x) gh:=by
   match gh,TA,QP with
   |.none,TA,QP=>exact⟨arz QP,TA⟩
   |.arr b c,TA,⟨a1,a2,a3,a4⟩=>exact⟨TA,a1,a2,a3,a4⟩
  have hr:=Iz (P:=P) (w:=w) (a:=a) (dst:=dst) (type:=type) (pos:=pos) (after:=after) (guard:=guard) (args:=args) (argTypes:=argTypes) VP Sz PP;unfold Oper.wp;rw[hr];have UW:args.map a.eval=#[a.eval x]++(xs.map a.eval).toArray:=by
   cases args;simp at SZ;subst SZ;simp
  rw[UW];refine(QF R w (a.eval x) (xs.map a.eval).toArray gh hi.val Qj Yy hown (by simpa using g1) (fun j v p hv hp=>?_)).mono (fun e w' hh=>?_)
  ·simp only[List.getElem?_toArray,arw]at hv
   cases hq:xs[j]? with
   |none=>simp[hq]at hv
   |some y=>rw[hq]at hv;simp only[Option.map_some,Option.some.injEq]at hv;subst hv;exact g2 j y p hq hp
  ·obtain⟨v',R',g',rfl,h1,h2,h3,h4,h5,h6⟩:=hh
   obtain⟨γ',i1,i2,i3,i4⟩:=ag3 hi hLt hgh h1 h2 h3 h4 h5 h6 rfl;exact hK _ _ R' γ' w' v' hk i1 i2 i3 i4
 ·obtain⟨dst,op,type,pos,after,guard⟩:=o
  simp only at hc hK;obtain⟨args,argTypes,x,xs,rfl,SZ,hx,TB⟩:=Ft hc;obtain⟨⟨fn,VP,Sz,PP⟩,QF⟩:=hP

  have Q5:=hi.tok k;have hm1:Mv R R γ (γ++[.none]) L (L++[.spare 0 k]):=Mv.push _ _ hi.len;obtain⟨g1,g2⟩:=kT hρ TB;obtain⟨ad,Vt⟩:=hρ _ _ hx;have hr:=Iz (P:=P) (w:=w) (a:=a) (dst:=dst) (type:=type) (pos:=pos) (after:=after) (guard:=guard) (args:=args) (argTypes:=argTypes) VP Sz PP;unfold Oper.wp;rw[hr];have UW:args.map a.eval=#[a.eval x]++(xs.map a.eval).toArray:=by
   cases args;simp at SZ;subst SZ;simp
  rw[UW];refine(QF R w (a.eval x) (xs.map a.eval).toArray .none hi.val (by rw[Vt];exact dE _ _ _) m5 ⟨rfl,ad,Vt⟩ (by simpa using g1) (fun j v p hv hp=>?_)).mono (fun e w' hh=>?_)
  ·simp only[List.getElem?_toArray,arw]at hv
   cases hq:xs[j]? with
   |none=>simp[hq]at hv
   |some y=>rw[hq]at hv;simp only[Option.map_some,Option.some.injEq]at hv;subst hv;exact g2 j y p hq hp
  ·obtain⟨v',R',g',rfl,h1,h2,h3,h4,h5,h6⟩:=hh
   have hE:Ext (· <w.heap.size) R R' w w':=⟨h1.below.mono fun b hb=>⟨hb,by intro e;cases e⟩,h1.sub,fun b o hb=>h1.old b o ⟨hb,by intro e;cases e⟩⟩;obtain⟨j1,j2⟩:=hi.later hE h2;obtain⟨γ',i1,i2,i3⟩:=give (n':=Pz.length) j1 (hB:=fun b hb=>arO (hi.bsz b hb) (aro _)) (s:=w.heap.size) (fun i h b hh hb=>(hi.new i h b hh hb).2) h3 h4 h5 (fun b hb=>(h6 b hb).resolve_right (by intro e;cases e)) rfl;exact hK _ _ R' γ' w' v' hk i1 j2 ((Mv.of_sub h1.sub).trans i2) i3
 ·obtain⟨dst,op,type,pos,after,guard⟩:=o
  simp only at hc hK;obtain⟨f,args,ts,caps,rfl,WA,Py,RS⟩:=GF hρ hc;obtain⟨⟨fn,VP,Sz,PP⟩,QF⟩:=hP;have hr:(execOp a.eval { dst,op := .call { callee := .value f,args,argTypes:=ts },type,pos,after,guard }).run P w = .ok (.enter g (args.map a.eval++caps)) w:=by
   have hb:fn.body.isNone=false:=by cases T8:fn.body<;>simp_all
   simp only[execOp,resolve,WA,Deferred.ofValue,Sem.run_bind,Sem.run_pure,Result.andThen_ok,invoke,callFunc,program,Sem.run];simp[VP,PP,hb]
  unfold Oper.wp;rw[hr];have UT:=ajz hi hF.len hF.ob;have US:∀ i j,i<L0.length->j<L0.length->jH σ i=jH σ j->i=j:=by
   intro i j Q5 VO e;have h1:=kE (σ:=σ) (i:=i) (by rw[hF.len];exact Q5);have h2:=kE (σ:=σ) (i:=j) (by rw[hF.len];exact VO);rw[<- e]at h2;exact y8 hF.nd h1 h2
  refine(QF _ R (aaU σ γ) w (args.map a.eval++caps) (aiK hi UT US hF.obb) (by simpa using Py) (fun j v p hv hp=>?_)).mono (fun e w' hh=>?_)
  ·exact AV.down UT (RS j v _ hv (by rw[arw,hp];rfl)) (hF.argb p (arb hp))
  ·obtain⟨v,R',γ1,rfl,h1,h2,h3,h4⟩:=hh
   obtain⟨i1,i2,i3,i4⟩:=abt hi hF.len hF.nd hF.ob h1 h2 h3;exact hK _ _ R' _ w' v hk i1 i2 i3 (AV.up i4 h4)
 ·obtain⟨w',R',γ',h1,h2,h3,h4⟩:=hs B R γ w a.eval o rfl hi (fun x _=>hρ x) ⟨fun _=>rfl,fun _=>rfl⟩
  unfold Oper.wp;rcases h1 with⟨u,h1,h5⟩|⟨h1,rfl⟩
  ·rw[h1]
   exact hK v L' R' γ' w' u hk h2 h3 h4 h5
  ·rw[h1]
   exact hK .undef L' R' γ' w' Go.undef hk h2 h3 h4 rfl
theorem xb {T:Tm}{a:Act}(hT:fg N R γ L T a){d:Option Tmp}{v:AV}{u:Value}(hd:dOK N d)(hv:v.rep R γ L u):fg N R γ L (uu T d v) (a.put d u):=by
 cases d with
 |none=>exact hT
 |some d =>
  have Tq:d<N:=hd;refine⟨by simp[Act.put,hT.size],hT.defers,fun t x h=>?_⟩;simp only[uu,List.lookup_cons]at h;by_cases htd:t=d
  ·subst htd
   simp at h;subst h;exact⟨u,by simp only[Act.put];exact ar' (by rw[hT.size];exact Tq),hv⟩
  ·have:(t==d)=false:=by simpa using htd
   rw[this]at h;obtain⟨u',h1,h2⟩:=hT.slot t x h;exact⟨u',by simp only[Act.put];rw[arT (Ne.symm htd)];exact h1,h2⟩
theorem MX {ops:Array Oper}{ds:List (Option Tmp)}(RJ:∀ j:Nat,(ops[j]?).map (·.dst)=ds[j]?){T:Tm}{a:Act}(hT:fg N R γ L T a){o:Oper}{A B':Prop}(h:gd ds T A B' o.guard) :
  (Region.wanted o (yielded ops a.tmps)=true/\A)\/(Region.wanted o (yielded ops a.tmps)=false/\B'):=by
 cases hg:o.guard with
 |none =>
  rw[hg]at h;exact .inl ⟨by simp[Region.wanted,hg],h⟩
 |some p =>
  obtain⟨j,want⟩:=p;rw[hg]at h;simp only[gd]at h;split at h
  ·rename_i d hd
   have Tq:(ops[j]?).bind (·.dst)=some d:=by
    have:=RJ j;rw[hd]at this
    cases ho:ops[j]? with
    |none=>simp[ho]at this
    |some o'=>simpa[ho]using this
   split at h
   ·rename_i b hb
    obtain⟨u,h1,h2⟩:=hT.slot d _ hb
    cases h2;have hy:yielded ops a.tmps j=some b:=by simp[yielded,Tq,h1]
    by_cases Xd:b=want
    ·exact .inl ⟨by simp[Region.wanted,hg,hy,Xd],h.1 Xd⟩
    ·exact .inr ⟨by simp[Region.wanted,hg,hy,Xd],h.2 (by cases b<;>cases want<;>simp_all)⟩
   ·rename_i hb
    obtain⟨u,h1,h2⟩:=hT.slot d _ hb;have Yz:u=Go.undef:=h2;subst Yz;have hy:yielded ops a.tmps j=none:=by simp[yielded,Tq,h1,Go.undef]
    exact .inr ⟨by simp[Region.wanted,hg,hy],h⟩
   ·exact h.elim
  ·exact h.elim
theorem sg (O2:TIok P ti){ops:Array Oper}{ds:List (Option Tmp)}(RJ:∀ j:Nat,(ops[j]?).map (·.dst)=ds[j]?){K:Tm->List Ob->Prop}{Q:Exit->Act->World->Prop}:∀ (l:List Oper) (R:PH) (γ:List Gh) (L:List Ob) (T:Tm) (a:Act) (w:World),aI P ti N ds K l T L->Inv B R γ L w->fg N R γ L T a ->
  (∀ T' L' R' γ' w' a',K T' L'->Inv B R' γ' L' w'->fg N R' γ' L' T' a'->Ext B R R' w w'->Mv R R' γ γ' L L'->Q .normal a' w')->wpList P ops Q l a w
 |[],R,γ,L,T,a,w,h,hi,hT,hQ=>hQ T L R γ w a h hi hT (Ext.refl _ _ _) Mv.refl
 |o::rest,R,γ,L,T,a,w,h,hi,hT,hQ=>by
  obtain⟨hd,hg⟩:=h;unfold wpList;rcases MX RJ hT hg with⟨hw,hA⟩|⟨hw,hB⟩
  ·rw[if_pos hw]
   refine .inl (lI O2 hi (fun x v hx=>Da hT hx) hA fun v L' R' γ' w' u hk h1 h2 h3 h4=>?_);exact sg O2 RJ rest R' γ' L' _ _ w' hk h1 (xb (hT.mv h3) hd h4) fun T2 L2 R2 γ2 w2 a2 k1 k2 k3 k4 k5=>hQ T2 L2 R2 γ2 w2 a2 k1 k2 k3 (h2.trans k4) (h3.trans k5)
  ·rw[if_neg (by rw[hw];decide)]
   exact sg O2 RJ rest R γ L _ _ w hB hi (xb hT hd rfl) hQ
end
