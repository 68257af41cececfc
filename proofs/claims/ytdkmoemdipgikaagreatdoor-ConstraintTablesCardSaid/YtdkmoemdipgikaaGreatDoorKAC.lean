/- Parts. No condition. -/
import Derived.Test.YtdkmoemdipgikaaGreatDoorKAB
set_option linter.unusedSimpArgs false
set_option linter.unusedVariables false
namespace Go.Proofs.YtdkmoemdipgikaaGreatDoor
open Go.RowKit
def gX (σ:List Nat)(i:Nat):Nat:=σ.getD i 0
def Cap.ren (σ:List Nat):Cap->Cap
 |.c x => .c x
 |.ptr id off => .ptr (gX σ id) off
def SV.ren (σ:List Nat):SV->SV
 |.c x => .c x
 |.emp => .emp
 |.own es t => .own es (gX σ t)
 |.ptr id off => .ptr (gX σ id) off
 |.sl id ver lo n => .sl (gX σ id) ver lo n
 |.ep id ver i o => .ep (gX σ id) ver i o
 |.mp id => .mp (gX σ id)
 |.clo f caps => .clo f (caps.map (Cap.ren σ))
def AV.ren (σ:List Nat):AV->AV
 |.one x => .one (x.ren σ)
 |.agg xs => .agg (xs.map (SV.ren σ))
 |.tup ps => .tup ps
 |.tupS xs => .tupS (xs.map (SV.ren σ))
 |.undef => .undef
def Ob.ren (σ:List Nat):Ob->Ob
 |.box cs => .box (cs.map (SV.ren σ))
 |.spare n k => .spare n k
 |.row ver es k => .row ver (es.map (List.map (SV.ren σ))) k
 |.map kvs => .map (kvs.map fun p=>(p.1,p.2.ren σ))
 |.dead => .dead
def Cap.below (n:Nat):Cap->Prop
 |.ptr id _=>id<n
 |_=>True
def SV.below (n:Nat):SV->Prop
 |.own _ t=>t<n
 |.ptr id _=>id<n
 |.sl id _ _ _=>id<n
 |.ep id _ _ _=>id<n
 |.mp id=>id<n
 |.clo _ caps =>∀ x∈caps,x.below n
 |_=>True
def AV.below (n:Nat):AV->Prop
 |.one x=>x.below n
 |.agg xs =>∀ x∈xs,x.below n
 |.tupS xs =>∀ x∈xs,x.below n
 |_=>True
def Ob.below (n:Nat):Ob->Prop
 |.box cs =>∀ x∈cs,x.below n
 |.row _ es _ =>∀ e∈es,∀ x∈e,x.below n
 |.map kvs =>∀ p∈kvs,p.2.below n
 |_=>True
structure BM (σ:List Nat)(γ0:List Gh)(L0:List Ob)(γ:List Gh)(L:List Ob):Prop where
 glen:γ0.length=L0.length
 gh:∀ i,i<L0.length->γ[gX σ i]?=γ0[i]?
 ob:∀ (i:Nat) x,L0[i]?=some x->L[gX σ i]?=some (x.ren σ)
section
variable {P:Program} {B:Nat->Prop} {R:PH} {γ0 γ:List Gh} {L0 L:List Ob} {w:World} {σ:List Nat}
theorem BM.lt (h:BM σ γ0 L0 γ L){i:Nat}(hi:i<L0.length):gX σ i<L.length :=
 (amw.1 (h.ob i _ (amF hi))).1
theorem BM.spare (h:BM σ γ0 L0 γ L){i n k:Nat}(hi:i<L0.length)(e:L[gX σ i]?=some (.spare n k)):L0[i]?=some (.spare n k):=by
 have h0:=amF hi;rw[h0];have h1:=h.ob i _ h0;rw[e]at h1;injection h1 with h1
 cases hx:L0[i]<;>rw[hx]at h1<;>simp[Ob.ren]at h1;rw[h1.1,h1.2]
theorem BM.row (h:BM σ γ0 L0 γ L){i ver k:Nat}{es:List (List SV)}(hi:i<L0.length)(e:L[gX σ i]?=some (.row ver es k)):∃ es0,L0[i]?=some (.row ver es0 k)/\es0.length=es.length:=by
 have h0:=amF hi;have h1:=h.ob i _ h0;rw[e]at h1;injection h1 with h1
 cases hx:L0[i]<;>rw[hx]at h1<;>simp[Ob.ren]at h1;rename_i ver' es' k';obtain⟨a,b,c⟩:=h1;subst a b c;exact⟨es',by rw[h0,hx],m5⟩
theorem BM.gbox (h:BM σ γ0 L0 γ L){i:Nat}{g:Gh}(e:γ0[i]?=some g):γ[gX σ i]?=some g:=by
 rw[h.gh i (by rw[<- h.glen];exact(amw.1 e).1)];exact e
theorem Cap.up (h:BM σ γ0 L0 γ L){x:Cap}{v:Value}(hx:x.rep R γ0 v):(x.ren σ).rep R γ v:=by
 cases x with
 |c y=>exact hx
 |ptr id off=>obtain⟨b,h1,h2⟩:=hx;exact⟨b,h1,h.gbox h2⟩
theorem SV.up (h:BM σ γ0 L0 γ L){x:SV}{v:Value}(hx:x.rep R γ0 L0 v):(x.ren σ).rep R γ L v:=by
 cases x with
 |c y=>exact hx
 |emp=>exact hx
 |own es t =>
  obtain⟨h1,hlt,h2⟩:=hx;refine⟨h1,h.lt hlt,fun n k e=>?_⟩;rw[h.gh t hlt];exact h2 n k (h.spare hlt e)
 |ptr id off=>obtain⟨b,h1,h2⟩:=hx;exact⟨b,h1,h.gbox h2⟩
 |sl id ver lo n =>
  obtain⟨h1,hlt,h2⟩:=hx;refine⟨h1,h.lt hlt,fun ver' es k e=>?_⟩;obtain⟨es0,g1,g2⟩:=h.row hlt e;rw[h.gh id hlt,<- g2];exact h2 ver' es0 k g1
 |ep id ver i o =>
  obtain⟨h1,hlt,h2⟩:=hx;refine⟨h1,h.lt hlt,fun ver' es k e=>?_⟩;obtain⟨es0,g1,g2⟩:=h.row hlt e;rw[h.gh id hlt,<- g2];exact h2 ver' es0 k g1
 |mp id=>obtain⟨b,h1,h2⟩:=hx;exact⟨b,h1,h.gbox h2⟩
 |clo f caps =>
  obtain⟨vs,h1,h2,h3⟩:=hx;refine⟨vs,h1,by simpa using h2,fun j u x hu hx=>?_⟩;rw[amT]at hx
  cases hq:caps[j]? with
  |none=>simp[hq]at hx
  |some y=>simp[hq]at hx;subst hx;exact Cap.up h (h3 j u y hu hq)
theorem AV.up (h:BM σ γ0 L0 γ L){x:AV}{v:Value}(hx:x.rep R γ0 L0 v):(x.ren σ).rep R γ L v:=by
 cases x with
 |one x=>exact SV.up h hx
 |agg xs =>
  obtain⟨vs,h1,h2,h3⟩:=hx;refine⟨vs,h1,by simpa using h2,fun j u x hu hx=>?_⟩;rw[amT]at hx
  cases hq:xs[j]? with
  |none=>simp[hq]at hx
  |some y=>simp[hq]at hx;subst hx;exact SV.up h (h3 j u y hu hq)
 |tup ps=>exact hx
 |tupS xs =>
  obtain⟨vs,h1,h2,h3⟩:=hx;refine⟨vs,h1,by simpa using h2,fun j u x hu hx=>?_⟩;rw[amT]at hx
  cases hq:xs[j]? with
  |none=>simp[hq]at hx
  |some y=>simp[hq]at hx;subst hx;exact SV.up h (h3 j u y hu hq)
 |undef=>exact hx
theorem jM.up (h:BM σ γ0 L0 γ L){x:Ob}{g:Gh}(hx:jM R γ0 L0 w x g):jM R γ L w (x.ren σ) g:=by
 match x,g,hx with
 |.box cs,.box b,⟨⟨vs,E,h1,h2,h3⟩,h4⟩ =>
  refine⟨⟨vs,E,h1,by simpa using h2,fun j u x hu hx=>?_⟩,h4⟩;rw[amT]at hx
  cases hq:cs[j]? with
  |none=>simp[hq]at hx
  |some y=>simp[hq]at hx;subst hx;exact SV.up h (h3 j u y hu hq)
 |.spare n k,.arr b c,h=>exact h
 |.spare n k,.none,h=>exact h
 |.row ver es k,.arr b c,⟨⟨vs,E,h1,h2,h3⟩,h4,h5,h6,h7⟩ =>
  refine⟨⟨vs,E,h1,h2,fun i e j u x he hu hx=>?_⟩,by simpa using h4,h5,fun e he=>?_,h7⟩
  ·rw[amT]at he
   cases hq:es[i]? with
   |none=>simp[hq]at he
   |some y =>
    simp[hq]at he;subst he;rw[amT]at hx
    cases hq2:y[j]? with
    |none=>simp[hq2]at hx
    |some z=>simp[hq2]at hx;subst hx;exact SV.up h (h3 i y j u z hq hu hq2)
  ·obtain⟨y,hy,rfl⟩:=am6.1 he
   simpa using h6 y hy
 |.row ver es k,.none,h=>have h:es=[]:=h;subst h;rfl
 |.map kvs,.box b,⟨⟨es,h1,h2,h3⟩,h4⟩ =>
  refine⟨⟨es,h1,by simpa using h2,fun j e p he hp=>?_⟩,h4⟩;rw[amT]at hp
  cases hq:kvs[j]? with
  |none=>simp[hq]at hp
  |some y=>simp[hq]at hp;subst hp;exact⟨(h3 j e y he hq).1,(h3 j e y he hq).2.1,AV.up h (h3 j e y he hq).2.2⟩
 |.dead,.none,h=>exact h
 |.dead,.box _,h=>exact h
theorem Cap.down (h:BM σ γ0 L0 γ L){x:Cap}{v:Value}(hx:(x.ren σ).rep R γ v)(hb:x.below L0.length):x.rep R γ0 v:=by
 cases x with
 |c y=>exact hx
 |ptr id off=>obtain⟨b,h1,h2⟩:=hx;exact⟨b,h1,by rw[<- h.gh id hb];exact h2⟩
theorem SV.down (h:BM σ γ0 L0 γ L){x:SV}{v:Value}(hx:(x.ren σ).rep R γ L v)(hb:x.below L0.length):x.rep R γ0 L0 v:=by
 cases x with
 |c y=>exact hx
 |emp=>exact hx
 |own es t =>
  obtain⟨h1,_,h2⟩:=hx;have hlt:t<L0.length:=hb;refine⟨h1,hlt,fun n k e=>?_⟩;rw[<- h.gh t hlt];exact h2 n k (h.ob t _ e)
 |ptr id off=>obtain⟨b,h1,h2⟩:=hx;exact⟨b,h1,by rw[<- h.gh id hb];exact h2⟩
 |sl id ver lo n =>
  obtain⟨h1,_,h2⟩:=hx;have hlt:id<L0.length:=hb;refine⟨h1,hlt,fun ver' es k e=>?_⟩;have:=h2 ver' _ k (h.ob id _ e);rw[<- h.gh id hlt];simpa using this
 |ep id ver i o =>
  obtain⟨h1,_,h2⟩:=hx;have hlt:id<L0.length:=hb;refine⟨h1,hlt,fun ver' es k e=>?_⟩;have:=h2 ver' _ k (h.ob id _ e);rw[<- h.gh id hlt];simpa using this
 |mp id=>obtain⟨b,h1,h2⟩:=hx;exact⟨b,h1,by rw[<- h.gh id hb];exact h2⟩
 |clo f caps =>
  obtain⟨vs,h1,h2,h3⟩:=hx;exact⟨vs,h1,by simpa using h2,fun j u x hu hx=>Cap.down h (h3 j u _ hu (by rw[amT,hx];rfl)) (hb x (amC hx))⟩
theorem AV.down (h:BM σ γ0 L0 γ L){x:AV}{v:Value}(hx:(x.ren σ).rep R γ L v)(hb:x.below L0.length):x.rep R γ0 L0 v:=by
 cases x with
 |one x=>exact SV.down h hx hb
 |agg xs =>
  obtain⟨vs,h1,h2,h3⟩:=hx;exact⟨vs,h1,by simpa using h2,fun j u x hu hx=>SV.down h (h3 j u _ hu (by rw[amT,hx];rfl)) (hb x (amC hx))⟩
 |tup ps=>exact hx
 |tupS xs =>
  obtain⟨vs,h1,h2,h3⟩:=hx;exact⟨vs,h1,by simpa using h2,fun j u x hu hx=>SV.down h (h3 j u _ hu (by rw[amT,hx];rfl)) (hb x (amC hx))⟩
 |undef=>exact hx
theorem jM.down (h:BM σ γ0 L0 γ L){x:Ob}{g:Gh}(hx:jM R γ L w (x.ren σ) g)(hb:x.below L0.length):jM R γ0 L0 w x g:=by
 match x,g,hx,hb with
 |.box cs,.box b,⟨⟨vs,E,h1,h2,h3⟩,h4⟩,hb =>
  exact⟨⟨vs,E,h1,by simpa using h2,fun j u x hu hx=>SV.down h (h3 j u _ hu (by rw[amT,hx];rfl)) (hb x (amC hx))⟩,h4⟩
 |.spare n k,.arr b c,h,_=>exact h
 |.spare n k,.none,h,_=>exact h
 |.row ver es k,.arr b c,⟨⟨vs,E,h1,h2,h3⟩,h4,h5,h6,h7⟩,hb =>
  refine⟨⟨vs,E,h1,h2,fun i e j u x he hu hx=>?_⟩,by simpa using h4,h5,fun e he=>?_,h7⟩
  ·exact SV.down h (h3 i (e.map (SV.ren σ)) j u _ (by rw[amT,he];rfl) hu (by rw[amT,hx];rfl)) (hb e (amC he) x (amC hx))
  ·simpa using h6 _ (List.mem_map_of_mem he)
 |.row ver es k,.none,h,_=>have h:es.map _=[]:=h;exact List.map_eq_nil_iff.1 h
 |.map kvs,.box b,⟨⟨es,h1,h2,h3⟩,h4⟩,hb =>
  refine⟨⟨es,h1,by simpa using h2,fun j e p he hp=>?_⟩,h4⟩;have:=h3 j e _ he (by rw[amT,hp];rfl);exact⟨this.1,this.2.1,AV.down h this.2.2 (hb p (amC hp))⟩
 |.dead,.none,h,_=>exact h
 |.dead,.box _,h,_=>exact h
def Outside (γ0:List Gh)(w:World)(b:Nat):Prop:=b<w.heap.size /\ ∀ (i:Nat) g,γ0[i]?=some g->g.block≠some b
theorem yX (hi:Inv B R γ L w)(h:BM σ γ0 L0 γ L)(hinj:∀ i j,i<L0.length->j<L0.length->gX σ i=gX σ j->i=j)(hb:∀ x∈L0,x.below L0.length):Inv (Outside γ0 w) R γ0 L0 w:=by
 refine⟨h.glen,hi.val,fun id x g hx hg=>?_,fun i j gi gj h1 h2 hne b hb=>?_,fun i g b hg hb=>⟨fun ho=>ho.2 i g hg hb,(hi.new _ g b (h.gbox hg) hb).2⟩,fun b hb=>hb.1⟩
 ·exact jM.down h (hi.obj _ _ g (h.ob id x hx) (h.gbox hg)) (hb x (amC hx))
 ·have b1:i<L0.length:=by rw[<- h.glen];exact(amw.1 h1).1
  have b2:j<L0.length:=by rw[<- h.glen];exact(amw.1 h2).1
  exact hi.inj _ _ gi gj (h.gbox h1) (h.gbox h2) (fun e=>hne (hinj i j b1 b2 e)) b hb
theorem aa8 (hi:Inv B R γ L w)(h:BM σ γ0 L0 γ L){R':PH}{w':World}{σ':List Nat}{γ1 γ':List Gh}{L1 L':List Ob}(h1:Inv (Outside γ0 w) R' γ1 L1 w')(he:Ext (Outside γ0 w) R R' w w')(hm:Mv R R' γ0 γ1 L0 L1)
  (h':BM σ' γ1 L1 γ' L') (hσ:∀ i,i<L0.length->gX σ' i=gX σ i) (hlen:L.length<=L'.length) (hgl:γ'.length=L'.length)
  (inj':∀ i j,i<L1.length->j<L1.length->gX σ' i=gX σ' j->i=j)
  (all:∀ j,j<L'.length->(∃ i,i<L1.length/\gX σ' i=j)\/(j<L.length/\(∀ i,i<L0.length->gX σ i≠j)/\L'[j]?=L[j]?/\γ'[j]?=γ[j]?))
  (new':∀ i,L0.length<=i->i<L1.length->L.length<=gX σ' i) :
  Inv B R' γ' L' w'/\Ext B R R' w w'/\Mv R R' γ γ' L L':=by
 have hBO:∀ b,B b->Outside γ0 w b:=fun b hb=>⟨hi.bsz b hb,fun i g hg e=>(hi.new _ g b (h.gbox hg) e).1 hb⟩
 have hE:Ext B R R' w w':=⟨he.below.mono hBO,he.sub,fun b o hb=>he.old b o (hBO b hb)⟩;have oth:∀ j g b,(∀ i,i<L0.length->gX σ i≠j)->γ[j]?=some g->g.block=some b->Outside γ0 w b:=by
  intro j g b hj hg hb;refine⟨(hi.new j g b hg hb).2,fun i g0 hg0 e=>?_⟩;have b1:i<L0.length:=by rw[<- h.glen];exact(amw.1 hg0).1
  exact hi.inj j _ g g0 hg (h.gbox hg0) (fun e=>hj i b1 e.symm) b hb e
 have hmv:Mv R R' γ γ' L L':=by
  have old:∀ t,t<L.length->(∃ i,i<L0.length/\gX σ i=t)\/(L'[t]?=L[t]?/\γ'[t]?=γ[t]?):=by
   intro t ht;rcases all t (am9 ht hlen)with⟨i,hi1,hi2⟩|⟨_,_,a,b⟩
   ·by_cases hi0:i<L0.length
    ·exact .inl ⟨i,hi0,by rw[<- hσ i hi0];exact hi2⟩
    ·have:=new' i m0 hi1;omega
   ·exact .inr ⟨a,b⟩
  refine⟨he.sub,hlen,fun t n' k ht e=>?_,fun t ver es' k ht e=>?_,fun id b hg=>?_⟩
  ·rcases old t ht with⟨i,hi0,rfl⟩|⟨a,b⟩
   ·have hi1:i<L1.length:=am9 hi0 hm.len
    rw[<- hσ i hi0]at e;obtain⟨n,g1,g2,g3⟩:=hm.tok i n' k hi0 (h'.spare hi1 e);exact⟨n,h.ob i _ g1,g2,fun q=>by rw[h.gh i hi0,<- hσ i hi0,h'.gh i hi1];exact g3 q⟩
   ·exact⟨n',by rw[<- a];exact e,amM _,fun _=>b⟩
  ·rcases old t ht with⟨i,hi0,rfl⟩|⟨a,b⟩
   ·have hi1:i<L1.length:=am9 hi0 hm.len
    rw[<- hσ i hi0]at e;obtain⟨es1,q1,q2⟩:=h'.row hi1 e;obtain⟨ver0,es,g1,g2,g3⟩:=hm.row i ver es1 k hi0 q1;exact⟨ver0,_,h.ob i _ g1,g2,fun q=>⟨by have:=(g3 q).1;simp;omega,by rw[h.gh i hi0,<- hσ i hi0,h'.gh i hi1];exact(g3 q).2⟩⟩
   ·exact⟨ver,es',by rw[<- a];exact e,amM _,fun _=>⟨rfl,b⟩⟩
  ·have ht:id<L.length:=by rw[<- hi.len];exact(amw.1 hg).1
   rcases old id ht with⟨i,hi0,rfl⟩|⟨a,b'⟩
   ·have hi1:i<L1.length:=am9 hi0 hm.len
    rw[<- hσ i hi0,h'.gh i hi1];exact hm.ptr i b (by rw[<- h.gh i hi0];exact hg)
   ·rw[b'];exact hg
 have back:∀ j g,γ'[j]?=some g->(∃ i,i<L1.length/\gX σ' i=j/\γ1[i]?=some g)\/(j<L.length/\(∀ i,i<L0.length->gX σ i≠j)/\L'[j]?=L[j]?/\γ[j]?=some g):=by
  intro j g hg;have hj:j<L'.length:=by rw[<- hgl];exact(amw.1 hg).1
  rcases all j hj with⟨i,a,rfl⟩|⟨a,b,c,d⟩
  ·exact .inl ⟨i,a,rfl,by rw[<- h'.gh i a];exact hg⟩
  ·exact .inr ⟨a,b,c,by rw[<- d];exact hg⟩
 refine⟨⟨hgl,h1.val,fun j x g hx hg=>?_,fun j1 j2 g1 g2 q1 q2 hne b hb=>?_,fun j g b hg hb=>?_,fun b hb=>am9 (hi.bsz b hb) he.below.size⟩,hE,hmv⟩
 ·rcases back j g hg with⟨i,a,rfl,c⟩|⟨a,b,c,d⟩
  ·have hy:=amF a
   rw[h'.ob i _ hy]at hx;injection hx with hx;subst hx
   exact jM.up h' (h1.obj i _ g hy c)
  ·exact(hi.obj j x g (by rw[<- c];exact hx) d).mv hmv (fun b' hb'=>he.below.block b' (oth j g b' b d hb')) (fun b' o hb' e=>by rw[he.old b' o (oth j g b' b d hb')];exact e)
 ·rcases back j1 g1 q1 with⟨i1,a1,r1,c1⟩|⟨a1,b1,_,d1⟩<;>rcases back j2 g2 q2 with⟨i2,a2,r2,c2⟩|⟨a2,b2,_,d2⟩
  ·exact h1.inj i1 i2 g1 g2 c1 c2 (fun e=>hne (by rw[<- r1,<- r2,e])) b hb
  ·intro e;exact(h1.new i1 g1 b c1 hb).1 (oth j2 g2 b b2 d2 e)
  ·intro e;exact(h1.new i2 g2 b c2 e).1 (oth j1 g1 b b1 d1 hb)
  ·exact hi.inj j1 j2 g1 g2 d1 d2 hne b hb
 ·rcases back j g hg with⟨i,a,_,c⟩|⟨a,b',_,d⟩
  ·exact⟨fun hB=>(h1.new i g b c hb).1 (hBO b hB),(h1.new i g b c hb).2⟩
  ·have:=hi.new j g b d hb
   exact⟨this.1,am9 this.2 he.below.size⟩
end
def dp {α:Type}:List α->List Nat->List α->List α
 |l,i::σ,x::xs=>dp (l.set i x) σ xs
 |l,_,_=>l
theorem dA {α:Type}:∀ (σ:List Nat) (l xs:List α),(dp l σ xs).length=l.length
 |[],l,xs=>by cases xs<;>rfl
 |i::σ,l,[]=>rfl
 |i::σ,l,x::xs=>by rw[dp,dA σ];simp
theorem oD {α:Type}:∀ (σ:List Nat) (l xs:List α) (j:Nat),(∀ i∈σ,i≠j)->(dp l σ xs)[j]?=l[j]?
 |[],l,xs,j,_=>by cases xs<;>rfl
 |i::σ,l,[],j,_=>rfl
 |i::σ,l,x::xs,j,h=>by
  rw[dp,oD σ _ xs j (fun k hk=>h k (amU _ hk)),amQ (h i (ani ..))]
theorem wt {α:Type}:∀ (σ:List Nat) (l xs:List α) (i s:Nat),σ.Nodup->(∀ k∈σ,k<l.length)->σ[i]?=some s->i<xs.length->(dp l σ xs)[s]?=xs[i]?
 |[],l,xs,i,s,_,_,h,_=>by simp at h
 |k::σ,l,[],i,s,_,_,_,h=>by simp at h
 |k::σ,l,x::xs,i,s,hn,hb,h,hi=>by
  rw[dp];have hn':=List.nodup_cons.1 hn
  cases i with
  |zero =>
   simp at h;subst h;rw[oD σ _ xs k (fun q hq e=>hn'.1 (by rw[<- e];exact hq)),amP (hb k (ani ..))];rfl
  |succ i =>
   rw[wt σ (l.set k x) xs i s hn'.2 (fun q hq=>by simpa using hb q (amU _ hq)) (by simpa using h) (by simpa using hi)];simp
theorem mT:∀ {σ:List Nat} {i j s:Nat},σ.Nodup->σ[i]?=some s->σ[j]?=some s->i=j
 |[],i,j,s,_,h,_=>by simp at h
 |k::σ,0,0,s,_,_,_=>rfl
 |k::σ,0,j+1,s,hn,h1,h2=>by
  simp at h1 h2;subst h1;exact absurd (amC h2) (List.nodup_cons.1 hn).1
 |k::σ,i+1,0,s,hn,h1,h2=>by
  simp at h1 h2;subst h2;exact absurd (amC h1) (List.nodup_cons.1 hn).1
 |k::σ,i+1,j+1,s,hn,h1,h2=>by
  have h3:σ[i]?=some s:=by simpa using h1
  have h4:σ[j]?=some s:=by simpa using h2
  have:=mT (List.nodup_cons.1 hn).2 h3 h4;omega
def jN (n m:Nat):List Nat:=(List.range m).map (n + ·)
def ct (σ:List Nat)(n m:Nat):List Nat:=σ++jN n (m-σ.length)
def join {α:Type}(σ:List Nat)(l xs:List α):List α:=dp l σ xs++xs.drop σ.length
def joinL (σ:List Nat)(L L1:List Ob):List Ob:=join σ L (L1.map (Ob.ren (ct σ L.length L1.length)))
theorem nU {σ:List Nat}{n m i:Nat}(hi:i<σ.length):gX (ct σ n m) i=gX σ i:=by
 unfold gX ct;rw[ann,ann,amK hi]
theorem fC {σ:List Nat}{i:Nat}(hi:i<σ.length):σ[i]?=some (gX σ i):=by
 unfold gX;rw[ann,amF hi];rfl
theorem oe {σ:List Nat}{n m i:Nat}(hi:σ.length<=i)(hm:i<m):gX (ct σ n m) i=n+(i-σ.length):=by
 unfold gX ct jN;rw[ann,amD hi,amT,List.getElem?_range m0];rfl
theorem Og {α:Type}{σ:List Nat}{l xs:List α}{n i:Nat}(hl:l.length=n)(hn:σ.Nodup)(hb:∀ k∈σ,k<l.length)(hi:i<xs.length):(join σ l xs)[gX (ct σ n xs.length) i]?=xs[i]?:=by
 unfold join;by_cases h:i<σ.length
 ·rw[nU h,amK (by rw[dA];exact hb _ (amC (fC h)))]
  exact wt σ l xs i _ hn hb (fC h) hi
 ·rw[oe m0 hi,amD (by rw[dA];omega),dA,anh]
  congr 1;omega
theorem join_length {α:Type}(σ:List Nat)(l xs:List α):(join σ l xs).length=l.length+(xs.length-σ.length):=by
 unfold join;rw[amE,dA,List.length_drop]
theorem AN {α:Type}{σ:List Nat}{l xs:List α}{j:Nat}(hj:j<l.length)(h:∀ i∈σ,i≠j):(join σ l xs)[j]?=l[j]?:=by
 unfold join;rw[amK (by rw[dA];exact hj)];exact oD σ l xs j h
section
variable {P:Program} {B:Nat->Prop} {R:PH} {γ:List Gh} {L0 L:List Ob} {w:World} {σ:List Nat}
def CN (σ:List Nat)(γ:List Gh):List Gh:=σ.map fun i=>γ.getD i .none
theorem Gf (hi:Inv B R γ L w)(hlen:σ.length=L0.length)(hob:∀ (i:Nat) x,L0[i]?=some x->L[gX σ i]?=some (x.ren σ)):BM σ (CN σ γ) L0 γ L:=by
 refine⟨by simp[CN,hlen],fun i h=>?_,hob⟩;have hlt:gX σ i<γ.length:=by rw[hi.len];exact(amw.1 (hob i _ (amF h))).1
 unfold CN;rw[amT,fC m0];simp only[Option.map_some];rw[ann,amF hlt];rfl
theorem yl (hi:Inv B R γ L w)(hlen:σ.length=L0.length)(hnd:σ.Nodup)(hob:∀ (i:Nat) x,L0[i]?=some x->L[gX σ i]?=some (x.ren σ)){R':PH}{w':World}{γ1:List Gh}{L1:List Ob}(h1:Inv (Outside (CN σ γ) w) R' γ1 L1 w')(he:Ext (Outside (CN σ γ) w) R R' w w')(hm:Mv R R' (CN σ γ) γ1 L0 L1) :
  Inv B R' (join σ γ γ1) (joinL σ L L1) w'/\Ext B R R' w w'/\Mv R R' γ (join σ γ γ1) L (joinL σ L L1)/\BM (ct σ L.length L1.length) γ1 L1 (join σ γ γ1) (joinL σ L L1):=by
 have hemb:=Gf hi hlen hob;have hbl:∀ k∈σ,k<L.length:=by
  intro k hk;obtain⟨i,hi',rfl⟩:=List.getElem_of_mem hk;have:gX σ i=σ[i]:=by have:=fC (σ:=σ) hi';rw[amF hi']at this;injection this with this;exact this.symm
  rw[<- this];exact hemb.lt m0
 have hbg:∀ k∈σ,k<γ.length:=fun k hk=>by rw[hi.len];exact hbl k hk
 have hle:L0.length<=L1.length:=hm.len;have e1:BM (ct σ L.length L1.length) γ1 L1 (join σ γ γ1) (joinL σ L L1):=by
  refine⟨h1.len,fun i h=>?_,fun i x hx=>?_⟩
  ·have:=Og (σ:=σ) (l:=γ) (xs:=γ1) (n:=L.length) (i:=i) hi.len hnd hbg (by rw[h1.len];exact h)
   rw[h1.len]at this;exact this
  ·have hlt:=(amw.1 hx).1
   have:=Og (σ:=σ) (l:=L) (xs:=L1.map (Ob.ren (ct σ L.length L1.length))) (n:=L.length) (i:=i) rfl hnd hbl (by simpa using hlt);rw[amI]at this;unfold joinL;rw[this,amT,hx];rfl
 have hL':(joinL σ L L1).length=L.length+(L1.length-σ.length):=by unfold joinL;rw[join_length,amI]
 have hinj:∀ i j,i<L1.length->j<L1.length->gX (ct σ L.length L1.length) i=gX (ct σ L.length L1.length) j->i=j:=by
  intro i j hi1 hj1 e;by_cases a:i<σ.length<;>by_cases b:j<σ.length
  ·rw[nU a,nU b]at e
   have h1:=fC a;have h2:=fC b;rw[<- e]at h2;exact mT hnd h1 h2
  ·rw[nU a,oe m0 hj1]at e
   have:=hbl _ (amC (fC a));omega
  ·rw[nU b,oe m0 hi1]at e
   have:=hbl _ (amC (fC b));omega
  ·rw[oe m0 hi1,oe m0 hj1]at e;omega
 have hall:∀ j,j<(joinL σ L L1).length->(∃ i,i<L1.length/\gX (ct σ L.length L1.length) i=j)\/(j<L.length/\(∀ i,i<L0.length->gX σ i≠j)/\(joinL σ L L1)[j]?=L[j]?/\(join σ γ γ1)[j]?=γ[j]?):=by
  intro j hj;rw[hL']at hj;by_cases hjL:j<L.length
  ·by_cases hjs:j∈σ
   ·obtain⟨i,hi',hq⟩:=List.getElem_of_mem hjs
    refine .inl ⟨i,m0,?_⟩;rw[nU hi'];have:=fC (σ:=σ) hi';rw[amF hi']at this;injection this with this;rw[<- this];exact hq
   ·have hne:∀ i∈σ,i≠j:=fun i hi' e=>hjs (by rw[<- e];exact hi')
    refine .inr ⟨hjL,fun i hi0 e=>hjs (by rw[<- e];exact amC (fC m0)),AN hjL hne,AN (by rw[hi.len];exact hjL) hne⟩
  ·exact .inl ⟨σ.length+(j-L.length),m0,by rw[oe m0 m0];omega⟩
 obtain⟨a,b,c⟩:=aa8 hi hemb h1 he hm e1 (fun i hi0=>nU m0) (by rw[hL'];omega) (by rw[join_length,hL',hi.len,h1.len]) hinj hall (fun i hi0 hi1=>by rw[oe m0 hi1];omega);exact⟨a,b,c,e1⟩
end
def Pure (P:Program)(f:FuncId)(args:List PV)(r:CV):Prop :=
 (∃ fn, P.funcs[f]? = some fn /\ fn.body.isSome = true /\ (fn.name == "runtime.NumGoroutine") = false) /\
 ∀ (R:PH) (w:World) (vs:Array Value),(∀ b o u,R b o=some u->w.cell? ⟨b,o,none⟩=some u)->vs.size=args.length->(∀ (j:Nat) v p,vs[j]?=some v->args[j]?=some p->p.rep R v) ->
  Calls P f vs w fun e w' =>∃ v R',e = .returned v/\Ext (· <w.heap.size) R R' w w'/\(∀ b o u,R' b o=some u->w'.cell? ⟨b,o,none⟩=some u)/\r.rep R' v
def KR (R:PH)(w:World)(es:List (List AC))(k:Nat)(v:Value):Gh->Prop
 |.none=>es=[] /\ ∃ a,v = .slice a 0 0
 |.arr b c=>v = .slice (some ⟨b,0,none⟩) es.length c/\(∃ vs E,w.heap[b]?=some (.cells vs E (0,0))/\vs.size=c*k)/\es.length<=c/\0<k /\ ∀ o,es.length*k<=o->R b o=none
 |.box _=>False
def Ee (P:Program)(f:FuncId)(es:List (List AC))(k:Nat)(args:List PV)(es':List (List AC)):Prop :=
 (∃ fn, P.funcs[f]? = some fn /\ fn.body.isSome = true /\ (fn.name == "runtime.NumGoroutine") = false) /\
 ∀ (R:PH) (w:World) (v:Value) (vs:Array Value) (g:Gh),(∀ b o u,R b o=some u->w.cell? ⟨b,o,none⟩=some u)->bg R v (.lst es)->(∀ e∈es,e.length=k)->KR R w es k v g->vs.size=args.length->(∀ (j:Nat) v p,vs[j]?=some v->args[j]?=some p->p.rep R v) ->
  Calls P f (#[v]++vs) w fun e w' =>∃ v' R' g',e = .returned v'/\Ext (fun b=>b<w.heap.size/\g.block≠some b) R R' w w'/\(∀ b o u,R' b o=some u->w'.cell? ⟨b,o,none⟩=some u) /\
   bg R' v' (.lst es')/\(∀ e∈es',e.length=k)/\KR R' w' es' k v' g' /\ ∀ b,g'.block=some b->w.heap.size<=b\/g.block=some b
def Run (P:Program)(f:FuncId)(L0:List Ob)(args:List AV)(L1:List Ob)(r:AV):Prop :=
 (∃ fn, P.funcs[f]? = some fn /\ fn.body.isSome = true /\ (fn.name == "runtime.NumGoroutine") = false) /\
 ∀ (B:Nat->Prop) (R:PH) (γ:List Gh) (w:World) (vs:Array Value),Inv B R γ L0 w->vs.size=args.length->(∀ (j:Nat) v p,vs[j]?=some v->args[j]?=some p->p.rep R γ L0 v) ->
  Calls P f vs w fun e w' =>∃ v R' γ',e = .returned v/\Inv B R' γ' L1 w'/\Ext B R R' w w'/\Mv R R' γ γ' L0 L1/\r.rep R' γ' L1 v
structure eQ (σ:List Nat)(L0:List Ob)(args:List AV)(L:List Ob):Prop where
 len:σ.length=L0.length
 nd:σ.Nodup
 ob:∀ (i:Nat) x,L0[i]?=some x->L[gX σ i]?=some (x.ren σ)
 obb:∀ x∈L0,x.below L0.length
 argb:∀ x∈args,x.below L0.length
def avs (ρ:Operand->Option AV):List Operand->Option (List AV)
 |[]=>some []
 |x::xs=>match ρ x,avs ρ xs with
  |some v,some vs=>some (v::vs)
  |_,_=>none
def Cap.av:Cap->AV
 |.c x => .one (.c x)
 |.ptr id off => .one (.ptr id off)
def NV (ti:TI):Operand->Bool
 |.func f=>ti.owns f
 |.tmp _=>ti.dyn
 |_=>false
def dj (ti:TI)(ρ:Operand->Option AV):Op->Option (FuncId×List AV)
 |.call { callee := .value f,args,.. } =>match NV ti f,ρ f,avs ρ args.toList with
  |true,some (.one (.c (.fn g cs))),some vs=>some (g,vs++cs.map fun x => .one (.c x))
  |true,some (.one (.clo g caps)),some vs=>some (g,vs++caps.map Cap.av)
  |_,_,_=>none
 |_=>none
def rK (T:Tm):Option Tmp->AV->Tm
 |some d,v=>(d,v)::T
 |none,_=>T
def dOK (N:Nat):Option Tmp->Prop
 |some d=>d<N
 |none=>True
def dr (ρ:Operand->Option AV):List Operand->Option (List PV)
 |[]=>some []
 |x::xs=>match (ρ x).bind AV.norm,dr ρ xs with
  |some p,some ps=>some (p::ps)
  |_,_=>none
def rS (ti:TI)(ρ:Operand->Option AV):Op->Option (AV×Prop)
 |.buildSlice t len parts=>vd ti ρ t len parts.toList
 |_=>none
def oL (ρ:Operand->Option AV):Op->Option (FuncId×List PV)
 |.call { callee := .value f,args,.. } =>match ρ f with
  |some (.one (.c (.fn g cs)))=>(dr ρ args.toList).map fun ps=>(g,ps++cs.map .one)
  |_=>none
 |_=>none
def dW (ti:TI)(ρ:Operand->Option AV):Op->Option (FuncId×List (List AC)×Option Nat×List PV)
 |.call { callee := .value (.func f),args,.. } =>match ti.owns f,args.toList with
  |true,x::xs=>match ρ x,dr ρ xs with
   |some (.one (.own es t)),some ps=>some (f,es,some t,ps)
   |some (.one .emp),some ps=>some (f,[],none,ps)
   |_,_=>none
  |_,_=>none
 |_=>none
def bP (ti:TI):Op->Bool
 |.alloc _=>true
 |.box _ _=>true
 |.store _ _ _=>true
 |.call { callee := .builtin b,.. } =>match b with
  |.append=>true
  |.unsafeString=>true
  |.unsafeSliceData=>true
  |.copy=>true
  |.clear=>true
  |.delete=>true
  |_=>false
 |.call { callee := .value f,.. } =>NV ti f
 |.makeSlice _ _ _=>true
 |.makeMap _ _=>true
 |.lookup _ _ _ _=>true
 |.buildSlice _ _ _=>ti.dyn
 |.makeFunc _ _ _=>ti.dyn
 |.mapUpdate _ _ _ _=>true
 |.mapEntry _ _ _=>true
 |.entryStore _ _ _ _=>true
 |.insert _ _ _ _=>true
 |.binOp _ t _ _ _=>match ti.kind t with
  |some (.pointer _)=>true
  |some (.map _ _)=>true
  |some (.func _ _ _)=>true
  |some (.slice _)=>true
  |_=>false
 |.convert s d _=>match ti.kind d,ti.kind s with
  |some .unsafePointer,_=>true
  |_,some .unsafePointer=>true
  |_,_=>false
 |_=>false
def sk:Op->Nat
 |.alloc _=>1
 |.box _ _=>1
 |.call { callee := .builtin .append,.. } =>2
 |.store _ _ _=>3
 |.call { callee := .builtin .unsafeSliceData,.. } =>4
 |.lookup _ _ _ _=>4
 |.makeFunc _ _ _=>4
 |.binOp _ _ _ _ _=>4
 |.convert _ _ _=>4
 |_=>0
def kZ (P:Program)(ρ:Operand->Option AV)(L:List Ob)(op:Op)(v:AV)(L':List Ob):Prop :=
 ∀ (B:Nat->Prop) (R:PH) (γ:List Gh) (w:World) (ev:Operand->Value) (o:Oper),o.op=op->Inv B R γ L w->(∀ x,x∈op.operands ->∀ v,ρ x=some v->v.rep R γ L (ev x))->((∀ f,ev (.func f) = .func (.func f) #[] #[]) /\ ∀ v,ev (.const v)=v)->adp P B R γ L L' w (execOp ev o) v
def fB (P:Program)(ti:TI)(ρ:Operand->Option AV)(L:List Ob)(K:AV->List Ob->Prop)(op:Op):Prop :=
 (∃ v φ,pop ti ρ L op=some (v,φ)/\φ/\K v L)\/(∃ v φ,rS ti ρ op=some (v,φ)/\φ/\K v L) \/
 (∃ v L' φ,xj ti ρ L op=some (v,L',φ)/\φ/\K v L')\/(∃ g ps r,oL ρ op=some (g,ps)/\Pure P g ps r/\K r.av L) \/
 (∃ g es t k ps es' , dW ti ρ op=some (g,es,some t,ps)/\L[t]?=some (.spare es.length k)/\Ee P g es k ps es'/\K (.one (.own es' L.length)) (L.set t .dead++[.spare es'.length k])) \/
 (∃ g k ps es' , dW ti ρ op=some (g,[],none,ps)/\Ee P g [] k ps es'/\K (.one (.own es' L.length)) (L++[.spare es'.length k])) \/
 (∃ σ g L0 args L1 r,dj ti ρ op=some (g,args.map (AV.ren σ))/\eQ σ L0 args L/\Run P g L0 args L1 r/\K (r.ren (ct σ L.length L1.length)) (joinL σ L L1)) \/
 (∃ v L',(bP ti op=true/\(ti.soft=true->sk op=0\/(sk op=4/\L'=L)))/\kZ P ρ L op v L'/\K v L')
def gd (ds:List (Option Tmp))(T:Tm)(A B:Prop):Option (Nat×Bool)->Prop
 |none=>A
 |some (j,want)=>match ds[j]? with
  |some (some d)=>match T.lookup d with
   |some (.one (.c (.bool b)))=>(b=want->A)/\(b=(!want)->B)
   |some .undef=>B
   |_=>False
  |_=>False
def aB (P:Program)(ti:TI)(N:Nat)(ds:List (Option Tmp))(K:Tm->List Ob->Prop):List Oper->Tm->List Ob->Prop
 |[],T,L=>K T L
 |o::rest,T,L=>dOK N o.dst/\gd ds T (fB P ti (look T) L (fun v L'=>aB P ti N ds K rest (rK T o.dst v) L') o.op) (aB P ti N ds K rest (rK T o.dst .undef) L) o.guard
section
variable {P:Program} {ti:TI} {B:Nat->Prop} {N:Nat} {R:PH} {γ:List Gh} {L:List Ob} {w:World}
theorem Inv.tok (hi:Inv B R γ L w)(k:Nat):Inv B R (γ++[.none]) (L++[.spare 0 k]) w:=by
 have gcase:∀ j h,(γ++[Gh.none])[j]?=some h->(j=γ.length/\h = .none)\/(j<γ.length/\γ[j]?=some h):=by
  intro j h hh;by_cases hid:j<γ.length
  ·rw[amK hid]at hh;exact .inr ⟨hid,hh⟩
  ·have:j=γ.length:=by have:=(amw.1 hh).1;simp at this;omega
   subst this;rw[amD m0]at hh;simp at hh;exact .inl ⟨rfl,hh.symm⟩
 refine⟨by simp[hi.len],hi.val,fun id y h hy hh=>?_,fun j1 j2 g1 g2 h1 h2 hne b hb=>?_,fun j h b hh hb=>?_,hi.bsz⟩
 ·rcases gcase id h hh with⟨rfl,rfl⟩|⟨hlt,hh'⟩
  ·rw[amD (by rw[hi.len];omega),hi.len]at hy
   simp at hy;subst hy;rfl
  ·rw[amK (by rw[<- hi.len];exact hlt)]at hy
   exact(hi.obj id y h hy hh').mv (Mv.push _ _ hi.len) (fun _ _=>rfl) (fun _ _ _ h=>h)
 ·rcases gcase j1 g1 h1 with⟨_,rfl⟩|⟨_,a2⟩
  ·cases hb
  ·rcases gcase j2 g2 h2 with⟨_,rfl⟩|⟨_,b2⟩
   ·intro e;cases e
   ·exact hi.inj j1 j2 g1 g2 a2 b2 hne b hb
 ·rcases gcase j h hh with⟨_,rfl⟩|⟨_,a2⟩
  ·cases hb
  ·exact hi.new j h b a2 hb
theorem FG (hti:TIok P ti)(hi:Inv B R γ L w){t tx ty:TypeId}{s x:AV}{us ux:Value}(hs:s.rep R γ L us)(hx:x.rep R γ L ux){v:AV}{L':List Ob}{φ:Prop}(h:pA ti L t tx s x=some (v,L',φ))(hφ:φ) :
  ∃ u w' R' γ',(Builtin.append_ #[t,tx] ty #[us,ux]).run P w = .ok u w'/\Inv B R' γ' L' w'/\Ext B R R' w w'/\Mv R R' γ γ' L L'/\v.rep R' γ' L' u:=by
 unfold pA at h;split at h
 ·rename_i xs E hxs hE
  have hpx:=ia hx hxs;have hE:=hti.elem _ _ hE;have ht:P.underlying t=some (.slice E):=by
   unfold nu at hE;split at hE
   ·rename_i e he;injection hE with hE;subst hE;exact he
   ·cases hE
  have htx:(ti.elem tx).isSome ->∃ E',P.underlying tx=some (.slice E'):=by
   intro h;obtain⟨e,he⟩:=ana.1 h;have h:=hti.elem _ _ he;unfold nu at h;split at h
   ·rename_i e he;exact⟨e,he⟩
   ·cases h
  split at h
  ·rename_i k by_ hk hb
   have hk:=hti.size _ _ hk;have hb:=hti.bytes _ _ hb;split at h
   ·injection h with h;injection h with e1 e2;injection e2 with e2 e3;subst e1 e2 e3
    obtain⟨h1,h2,h3,h4,h5,h6⟩:=hφ;obtain⟨E',hE'⟩:=htx h1;obtain⟨a,rfl⟩:=hs;have hi1:=hi.tok k;have hm1:Mv R R γ (γ++[.none]) L (L++[.spare 0 k]):=Mv.push _ _ hi.len;have hL1:(L++[Ob.spare 0 k])[L.length]?=some (.spare 0 k):=by simp
    have hv1:(SV.own [] L.length).rep R (γ++[.none]) (L++[.spare 0 k]) (.slice a 0 0) :=
     ⟨cO _ _ _,m5,fun n2 k2 _=>⟨m5,m5,fun _=>⟨.none,by rw[<- hi.len];simp,a,m5⟩⟩⟩
    obtain⟨u,w',R',γ',a1,a2,a3,a4,a5⟩:=aap (P:=P) (ty:=ty) hi1 ht hE' h2 (hti.zok _ h3 _ hk) hb hL1 hv1 rfl hpx h4 (by simpa using h5) (by simpa using h6);have hset:(L++[Ob.spare 0 k]).set L.length (.spare (0+xs.length) k)=L++[.spare xs.length k]:=by simp
    rw[hset]at a2 a4 a5;exact⟨u,w',R',γ',a1,a2,a3,hm1.trans a4,by rw[amB]at a5;exact a5⟩
   ·rename_i es i
    split at h
    ·rename_i n k' hL
     injection h with h;injection h with e1 e2;injection e2 with e2 e3;subst e1 e2 e3
     obtain⟨h1,h2,h3,h4,h5,h6,h7⟩:=hφ;obtain⟨E',hE'⟩:=htx h1;subst h2;obtain⟨u,w',R',γ',a1,a2,a3,a4,a5⟩:=aap (P:=P) (ty:=ty) hi ht hE' h4.2 (hti.zok _ h4.1 _ hk) hb hL hs h3 hpx h5 h6 h7;exact⟨u,w',R',γ',a1,a2,a3,a4,a5⟩
    ·cases h
   ·cases h
  ·cases h
 ·cases h
theorem Inv.later (hi:Inv B R γ L w){R':PH}{w':World}(he:Ext (· <w.heap.size) R R' w w')(hv:∀ b o u,R' b o=some u->w'.cell? ⟨b,o,none⟩=some u):Inv B R' γ L w'/\Ext B R R' w w':=by
 refine⟨⟨hi.len,hv,fun id x g hx hg=>?_,hi.inj,fun i g b hg hb=>?_,fun b hb=>am9 (hi.bsz b hb) he.below.size⟩,he.below.mono hi.bsz,he.sub,fun b o hb=>he.old b o (hi.bsz b hb)⟩
 ·refine(hi.obj id x g hx hg).mv (Mv.of_sub he.sub) (fun b hb=>he.below.block b (hi.new id g b hg hb).2) (fun b o hb e=>?_)
  rw[he.old b o (hi.new id g b hg hb).2];exact e
 ·have h1:=hi.new i g b hg hb
  have:=he.below.size;exact⟨h1.1,m0⟩
theorem jk {ρ:Operand->Option AV}{a:Act}(hρ:∀ x v,ρ x=some v->v.rep R γ L (a.eval x)):∀ {xs:List Operand} {ps:List PV},dr ρ xs=some ps ->
  xs.length=ps.length /\ ∀ (j:Nat) x p,xs[j]?=some x->ps[j]?=some p->p.rep R (a.eval x)
 |[],ps,h=>by injection h with h;subst h;exact⟨rfl,fun j x p hx=>by simp at hx⟩
 |x::xs,ps,h=>by
  unfold dr at h;split at h
  ·rename_i p ps' hp hps
   injection h with h;subst h
   obtain⟨g1,g2⟩:=jk hρ hps;refine⟨by simp[g1],fun j y q hy hq=>?_⟩
   cases j with
   |zero =>
    simp at hy hq;subst hy hq
    cases hx:ρ x with
    |none=>simp[hx]at hp
    |some vx=>simp only[hx,amv]at hp;exact AV.norm_rep (hρ _ _ hx) hp
   |succ j=>exact g2 j y q (by simpa using hy) (by simpa using hq)
  ·cases h
theorem Hk (hti:TIok P ti)(hi:Inv B R γ L w){a:Act}{ρ:Operand->Option AV}(hρ:∀ x v,ρ x=some v->v.rep R γ L (a.eval x)){o:Oper}{v:AV}{φ:Prop}(h:rS ti ρ o.op=some (v,φ))(hφ:φ):qy P B R γ L w (execOp a.eval o) v:=by
 obtain⟨dst,op,type,pos,after,guard⟩:=o;simp only at h;unfold rS at h;split at h
 ·rename_i t len parts
  obtain⟨u,w',R',h1,h2,h3,h4⟩:=G2 hti hi hρ h hφ;refine⟨u,w',R',?_,h2,h3,h4⟩;simp only[execOp,Sem.run_bind];rw[h1];rfl
 ·cases h
theorem aaA (hti:TIok P ti)(hi:Inv B R γ L w){a:Act}{ρ:Operand->Option AV}(hρ:∀ x v,ρ x=some v->v.rep R γ L (a.eval x)){o:Oper}{v:AV}{L':List Ob}{φ:Prop}(h:xj ti ρ L o.op=some (v,L',φ))(hφ:φ):adp P B R γ L L' w (execOp a.eval o) v:=by
 have viaBox:∀ {xs:List SV} {vs:Array Value} (E:TypeId),Cf R γ L xs vs->(execOp a.eval o).run P w = .ok (.value (.pointer (some ⟨w.heap.size,0,none⟩))) (w.alloc (.cells vs E))->adp P B R γ L (L++[.box xs]) w (execOp a.eval o) (.one (.ptr L.length 0)):=by
  intro xs vs E hc hr;obtain⟨h1,h2⟩:=aa9 hi E hc;exact⟨_,R,_,.inl ⟨_,hr,h2⟩,h1,⟨Kept.alloc hi.bsz _,PH.sub_refl _,fun _ _ _=>rfl⟩,Mv.push _ _ hi.len⟩
 obtain⟨dst,op,type,pos,after,guard⟩:=o;simp only at h viaBox;unfold xj at h;split at h
 ·rename_i E
  split at h
  ·rename_i zs hz
   injection h with h;injection h with e1 e2;injection e2 with e2 e3;subst e1 e2
   cases hz0:ti.zero E with
   |none=>simp[hz0]at hz
   |some za0 =>
    simp only[hz0,amv]at hz;have hzz0:=hti.zero _ _ hz0;unfold zeroOf at hzz0
    cases hinf:P.info? E with
    |none=>simp[hinf]at hzz0
    |some inf =>
     simp only[hinf,amv]at hzz0
     cases hzz:inf.zero with
     |none=>simp[hzz]at hzz0
     |some z =>
      simp only[hzz,amv]at hzz0;refine viaBox E (cells_rep (AV.ofVal_rep hzz0) hz) ?_;simp[execOp,Instr.alloc,zeroValue,typeInfo,program,Sem.run,hinf,hzz,newVar,newRow]
  ·cases h
 ·rename_i E x
  split at h
  ·rename_i xs hx
   injection h with h;injection h with e1 e2;injection e2 with e2 e3;subst e1 e2
   cases hrx:ρ x with
   |none=>simp[hrx]at hx
   |some vx =>
    simp only[hrx,amv]at hx;refine viaBox E (cells_rep (hρ _ _ hrx) hx) ?_;simp[execOp,Instr.box,newVar,newRow]
  ·cases h
 ·rename_i t p x
  split at h
  ·rename_i id off xs hrp hx
   split at h
   ·rename_i cs hL
    injection h with h;injection h with e1 e2;injection e2 with e2 e3;subst e1 e2 e3
    obtain⟨b,hpv,hg⟩:=hρ _ _ hrp
    cases hrx:ρ x with
    |none=>simp[hrx]at hx
    |some vx =>
     simp only[hrx,amv]at hx;have hc:=cells_rep (hρ _ _ hrx) hx;have h1:∀ c∈(a.eval x).cells,c.oneCell'=true:=by
      intro c hc';obtain⟨j,hj⟩:=Array.mem_iff_getElem?.1 hc';have hlt:j<xs.length:=by rw[<- hc.1];exact(anf.1 hj).1
      exact(SV.rep_one (hc.2 j c _ hj (amF hlt))).2
     obtain⟨w',g1,g2,g3,g4⟩:=JC (P:=P) (t:=t) hi hL hg hc h1 hφ.1 (hti.size _ _ hφ.2);have hr:(execOp a.eval { dst,op := .store t p x,type,pos,after,guard }).run P w = .ok .skip w':=by
      simp only[execOp,Sem.run_bind,hpv];rw[g1];rfl
     exact⟨w',R,γ,.inr ⟨hr,rfl⟩,g2,g3,g4⟩
   ·cases h
  ·rename_i id ver i o xs hrp hx
   split at h
   ·rename_i ver' es k hL
    split at h
    case h_2=>cases h
    rename_i e he;injection h with h;injection h with e1 e2;injection e2 with e2 e3;subst e1 e2 e3
    obtain⟨hve,hle,hts⟩:=hφ;subst hve;have hpv:=hρ _ _ hrp
    cases hrx:ρ x with
    |none=>simp[hrx]at hx
    |some vx =>
     simp only[hrx,amv]at hx;have hc:=cells_rep (hρ _ _ hrx) hx;have h1:∀ c∈(a.eval x).cells,c.oneCell'=true:=by
      intro c hc';obtain⟨j,hj⟩:=Array.mem_iff_getElem?.1 hc';have hlt:j<xs.length:=by rw[<- hc.1];exact(anf.1 hj).1
      exact(SV.rep_one (hc.2 j c _ hj (amF hlt))).2
     obtain⟨w',g1,g2,g3,g4⟩:=ym (P:=P) (t:=t) hi hL hpv he hc h1 hle (hti.size _ _ hts);have hr:(execOp a.eval { dst,op := .store t p x,type,pos,after,guard }).run P w = .ok .skip w':=by
      simp only[execOp,Sem.run_bind];rw[g1];rfl
     exact⟨w',R,γ,.inr ⟨hr,rfl⟩,g2,g3,g4⟩
   ·cases h
  ·cases h
 ·rename_i args argTypes
  split at h
  ·rename_i s x t tx ha ht
   split at h
   ·rename_i vs vx hs hx
    obtain⟨u,w',R',γ',g1,g2,g3,g4,g5⟩:=FG (P:=P) (ty:=type) hti hi (hρ _ _ hs) (hρ _ _ hx) h hφ;have e1:args=#[s,x]:=by cases args;simp_all
    have e2:argTypes=#[t,tx]:=by cases argTypes;simp_all
    subst e1 e2;refine⟨w',R',γ',.inl ⟨u,?_,g5⟩,g2,g3,g4⟩;simp[execOp,resolve,invoke,builtin,g1]
   ·cases h
  ·cases h
 ·cases h
theorem BU {ρ:Operand->Option AV}{op:Op}{f:FuncId}{es:List (List AC)}{t:Nat}{ps:List PV}(h:dW ti ρ op=some (f,es,some t,ps)) :
  ∃ args ts x xs,op = .call { callee := .value (.func f),args,argTypes:=ts } /\ args.toList=x::xs/\ρ x=some (.one (.own es t))/\dr ρ xs=some ps:=by
 unfold dW at h;split at h
 ·rename_i f' args ts
  split at h
  ·rename_i x xs ho hxs
   split at h
   ·rename_i es' t' ps' hx hps
    injection h with h;injection h with e1 e2;injection e2 with e2 e3;injection e3 with e3 e4;injection e3 with e3
    subst e1 e2 e3 e4;exact⟨args,ts,x,xs,rfl,hxs,hx,hps⟩
   ·rename_i ps' hx hps
    injection h with h;injection h with e1 e2;injection e2 with e2 e3;injection e3 with e3 e4;cases e3
   ·cases h
  ·cases h
 ·cases h
theorem zP {ρ:Operand->Option AV}{op:Op}{f:FuncId}{ps:List PV}(h:dW ti ρ op=some (f,[],none,ps)) :
  ∃ args ts x xs,op = .call { callee := .value (.func f),args,argTypes:=ts } /\ args.toList=x::xs/\ρ x=some (.one .emp)/\dr ρ xs=some ps:=by
 unfold dW at h;split at h
 ·rename_i f' args ts
  split at h
  ·rename_i x xs ho hxs
   split at h
   ·rename_i es' t' ps' hx hps
    injection h with h;injection h with e1 e2;injection e2 with e2 e3;injection e3 with e3 e4;cases e3
   ·rename_i ps' hx hps
    injection h with h;injection h with e1 e2;injection e2 with e2 e3;injection e3 with e3 e4
    subst e1 e4;exact⟨args,ts,x,xs,rfl,hxs,hx,hps⟩
   ·cases h
  ·cases h
 ·cases h
theorem DJ {f : FuncId} {fn : Func} {a : Act} {dst : Option Tmp} {type : TypeId} {pos : String} {after : Array Edge} {guard : Option (Nat × Bool)} {args : Array Operand} {argTypes : Array TypeId} (hfn : P.funcs[f]? = some fn) (hbody : fn.body.isSome = true) (hname : (fn.name == "runtime.NumGoroutine") = false) :
  (execOp a.eval { dst,op := .call { callee := .value (.func f),args,argTypes },type,pos,after,guard }).run P w = .ok (.enter f (args.map a.eval)) w:=by
 have hb:fn.body.isNone=false:=by cases hbb:fn.body<;>simp_all
 simp only[execOp,resolve,Act.eval,Deferred.ofValue,Sem.run_bind,Sem.run_pure,Result.andThen_ok,invoke,callFunc,program,Sem.run];simp[hfn,hname,hb]
theorem give (hi:Inv B R γ L w){k n' s:Nat}{g':Gh}{es':List (List AC)}{v':Value}(hB:∀ b,B b->b<s)(hold:∀ (i:Nat) h b,γ[i]?=some h->h.block=some b->b<s)(hp:bg R v' (.lst es'))(hw':∀ e∈es',e.length=k)(ho:KR R w es' k v' g')(hgb:∀ b,g'.block=some b->s<=b)(hn:es'.length=n') :
  ∃ γ',Inv B R γ' (L++[.spare n' k]) w/\Mv R R γ γ' L (L++[.spare n' k])/\(SV.own es' L.length).rep R γ' (L++[.spare n' k]) v':=by
 subst hn;have gcase:∀ j h,(γ++[g'])[j]?=some h->(j<γ.length/\γ[j]?=some h)\/(j=γ.length/\h=g'):=by
  intro j h hh;by_cases hj:j<γ.length
  ·rw[amK hj]at hh;exact .inl ⟨hj,hh⟩
  ·have:j=γ.length:=by have:=(amw.1 hh).1;simp at this;omega
   subst this;rw[amD m0]at hh;simp at hh;exact .inr ⟨rfl,hh.symm⟩
 have hm:Mv R R γ (γ++[g']) L (L++[.spare es'.length k]):=Mv.push _ _ hi.len;refine⟨γ++[g'],⟨by simp[hi.len],hi.val,fun id x h hx hh=>?_,fun j1 j2 g1 g2 h1 h2 hne b hb=>?_,fun j h b hh hb=>?_,hi.bsz⟩,hm,hp,m5,fun n2 k2 e2=>?_⟩
 ·rcases gcase id h hh with⟨hj,hh'⟩|⟨rfl,rfl⟩
  ·rw[amK (by rw[<- hi.len];exact hj)]at hx
   exact(hi.obj id x h hx hh').mv hm (fun _ _=>rfl) (fun _ _ _ h=>h)
  ·rw[amD (by rw[hi.len];omega)]at hx
   simp[hi.len]at hx;subst hx
   match h,ho with
   |.none,⟨h0,_⟩=>rw[h0];rfl
   |.arr b c,⟨_,⟨vs,E,a1,a2⟩,a3,a4,a5⟩=>exact⟨⟨vs,E,a1,a2⟩,a3,a4,a5⟩
 ·rcases gcase j1 g1 h1 with⟨a1,a3⟩|⟨a1,rfl⟩<;>rcases gcase j2 g2 h2 with⟨b1,b3⟩|⟨b1,rfl⟩
  ·exact hi.inj j1 j2 g1 g2 a3 b3 hne b hb
  ·intro e;have h1:=hgb b e;have h2:=hold j1 g1 b a3 hb;omega
  ·intro e;have h1:=hgb b hb;have h2:=hold j2 g2 b b3 e;omega
  ·omega
 ·rcases gcase j h hh with⟨a1,a3⟩|⟨a1,rfl⟩
  ·exact hi.new j h b a3 hb
  ·have hsz:b<w.heap.size:=by
    match h,ho,hb with
    |.arr b' c,⟨_,⟨vs,E,a1,_⟩,_⟩,hb=>injection hb with hb;subst hb;exact(anf.1 a1).1
   exact⟨fun hBb=>by have h1:=hB b hBb;have h2:=hgb b hb;omega,hsz⟩
 ·rw[amD m0]at e2
  simp at e2;obtain⟨rfl,rfl⟩:=e2;refine⟨amM _,hw',fun _=>⟨g',?_,?_⟩⟩
  ·rw[amD (by rw[hi.len];omega)];simp[hi.len]
  ·match g',ho with
   |.none,⟨h0,ha⟩=>exact ha
   |.arr b c,⟨h0,_⟩=>exact h0
theorem ac' (hi:Inv B R γ L w){t n k n':Nat}{g g':Gh}{R':PH}{w':World}{es':List (List AC)}{v':Value}(hL:L[t]?=some (.spare n k))(hg:γ[t]?=some g)(he:Ext (fun b=>b<w.heap.size/\g.block≠some b) R R' w w')
  (hv:∀ b o u,R' b o=some u->w'.cell? ⟨b,o,none⟩=some u) (hp:bg R' v' (.lst es')) (hw':∀ e∈es',e.length=k) (ho:KR R' w' es' k v' g') (hgb:∀ b,g'.block=some b->w.heap.size<=b\/g.block=some b) (hn:es'.length=n') :
  ∃ γ',Inv B R' γ' (L.set t .dead++[.spare n' k]) w'/\Ext B R R' w w'/\Mv R R' γ γ' L (L.set t .dead++[.spare n' k])/\(SV.own es' L.length).rep R' γ' (L.set t .dead++[.spare n' k]) v':=by
 subst hn;have hlt:t<L.length:=(amw.1 hL).1;have hltg:t<γ.length:=by rw[hi.len];exact hlt
 have hgnb:g ≠ .none ->∀ b,g.block=some b->b<w.heap.size /\ ¬ B b:=fun _ b hb=>⟨(hi.new t g b hg hb).2,(hi.new t g b hg hb).1⟩
 have gcase:∀ j h,(γ.set t Gh.none++[g'])[j]?=some h->(j=t/\h = .none)\/(j<γ.length/\j≠t/\γ[j]?=some h)\/(j=γ.length/\h=g'):=by
  intro j h hh;by_cases hj:j<γ.length
  ·rw[amK (by simpa using hj)]at hh
   by_cases hjt:j=t
   ·subst hjt;rw[amP hltg]at hh;injection hh with hh;exact .inl ⟨rfl,hh.symm⟩
   ·rw[amQ (Ne.symm hjt)]at hh;exact .inr (.inl ⟨hj,hjt,hh⟩)
  ·have:j=γ.length:=by have:=(amw.1 hh).1;simp at this;omega
   subst this;rw[amD m5]at hh;simp at hh;exact .inr (.inr ⟨rfl,hh.symm⟩)
 have hm:Mv R R' γ (γ.set t .none++[g']) L (L.set t .dead++[.spare es'.length k]):=by
  refine⟨he.sub,m5,fun t' n' k' hlt' h=>?_,fun t' ver es0 k' hlt' h=>?_,fun id b h=>?_⟩
  ·rw[amK (by simpa using hlt')]at h
   by_cases htt:t'=t
   ·subst htt;rw[amP hlt]at h;cases h
   ·rw[amQ (Ne.symm htt)]at h
    exact⟨n',h,amM _,fun _=>by rw[amK (by simp;rw[hi.len];exact hlt'),amQ (Ne.symm htt)]⟩
  ·rw[amK (by simpa using hlt')]at h
   by_cases htt:t'=t
   ·subst htt;rw[amP hlt]at h;cases h
   ·rw[amQ (Ne.symm htt)]at h
    exact⟨ver,es0,h,amM _,fun _=>⟨rfl,by rw[amK (by simp;rw[hi.len];exact hlt'),amQ (Ne.symm htt)]⟩⟩
  ·have hne:id≠t:=by
    rintro rfl;exact hi.obj id _ _ hL h
   rw[amK (by simp;exact(amw.1 h).1),amQ (Ne.symm hne)];exact h
 have keep:∀ j h b,j≠t->γ[j]?=some h->h.block=some b->b<w.heap.size/\g.block≠some b:=fun j h b hne hh hb=>⟨(hi.new j h b hh hb).2,hi.inj j t h g hh hg hne b hb⟩
 refine⟨γ.set t .none++[g'],⟨by simp[hi.len],hv,fun id x h hx hh=>?_,fun j1 j2 g1 g2 h1 h2 hne b hb=>?_,fun j h b hh hb=>?_,fun b hb=>am9 (hi.bsz b hb) he.below.size⟩,?_,hm,hp,m5,fun n2 k2 e2=>?_⟩
 ·rcases gcase id h hh with⟨rfl,rfl⟩|⟨hj,hne,hh'⟩|⟨rfl,rfl⟩
  ·rw[amK (by simpa using hlt),amP hlt]at hx
   injection hx with hx;subst hx;trivial
  ·rw[amK (by simp;rw[<- hi.len];exact hj),amQ (Ne.symm hne)]at hx
   exact(hi.obj id x h hx hh').mv hm (fun b hb=>he.below.block b (keep id h b hne hh' hb)) (fun b o hb e=>by rw[he.old b o (keep id h b hne hh' hb)];exact e)
  ·rw[amD (by simp[hi.len])]at hx
   simp[hi.len]at hx;subst hx
   match h,ho with
   |.none,⟨h0,_⟩=>rw[h0];rfl
   |.arr b c,⟨_,⟨vs,E,a1,a2⟩,a3,a4,a5⟩=>exact⟨⟨vs,E,a1,a2⟩,a3,a4,a5⟩
 ·rcases gcase j1 g1 h1 with⟨_,rfl⟩|⟨a1,a2,a3⟩|⟨a1,rfl⟩
  ·cases hb
  ·rcases gcase j2 g2 h2 with⟨_,rfl⟩|⟨b1,b2,b3⟩|⟨b1,rfl⟩
   ·intro e;cases e
   ·exact hi.inj j1 j2 g1 g2 a3 b3 hne b hb
   ·intro e
    rcases hgb b e with h|h
    ·have:=(hi.new j1 g1 b a3 hb).2;omega
    ·exact(keep j1 g1 b a2 a3 hb).2 h
  ·rcases gcase j2 g2 h2 with⟨_,rfl⟩|⟨b1,b2,b3⟩|⟨b1,rfl⟩
   ·intro e;cases e
   ·intro e
    rcases hgb b hb with h|h
    ·have:=(hi.new j2 g2 b b3 e).2;omega
    ·exact(keep j2 g2 b b2 b3 e).2 h
   ·omega
 ·rcases gcase j h hh with⟨_,rfl⟩|⟨a1,a2,a3⟩|⟨a1,rfl⟩
  ·cases hb
  ·have:=hi.new j h b a3 hb
   exact⟨this.1,am9 this.2 he.below.size⟩
  ·have hsz:b<w'.heap.size:=by
    match h,ho,hb with
    |.arr b' c,⟨_,⟨vs,E,a1,_⟩,_⟩,hb=>injection hb with hb;subst hb;exact(anf.1 a1).1
   refine⟨fun hB=>?_,hsz⟩;rcases hgb b hb with h'|h'
   ·have:=hi.bsz b hB;omega
   ·exact(hi.new t g b hg h').1 hB
 ·exact⟨he.below.mono fun b hB=>⟨hi.bsz b hB,fun e=>(hi.new t g b hg e).1 hB⟩,he.sub,fun b o hB=>he.old b o ⟨hi.bsz b hB,fun e=>(hi.new t g b hg e).1 hB⟩⟩
 ·rw[amD m5]at e2
  simp at e2;obtain⟨rfl,rfl⟩:=e2;refine⟨amM _,hw',fun _=>⟨g',?_,?_⟩⟩
  ·rw[amD (by simp[hi.len])];simp[hi.len]
  ·match g',ho with
   |.none,⟨h0,ha⟩=>exact ha
   |.arr b c,⟨h0,_⟩=>exact h0
theorem Oz {ρ:Operand->Option AV}{a:Act}(hρ:∀ x v,ρ x=some v->v.rep R γ L (a.eval x)):∀ {xs:List Operand} {vs:List AV},avs ρ xs=some vs->xs.length=vs.length /\ ∀ (j:Nat) y v,xs[j]?=some y->vs[j]?=some v->v.rep R γ L (a.eval y)
 |[],vs,h=>by injection h with h;subst h;exact⟨rfl,fun j y v hy=>by simp at hy⟩
 |x::xs,vs,h=>by
  unfold avs at h;split at h
  ·rename_i v0 vs0 h1 h2
   injection h with h;subst h
   obtain⟨g1,g2⟩:=Oz hρ h2;refine⟨by simp[g1],fun j y v hy hv=>?_⟩
   cases j with
   |zero=>simp at hy hv;subst hy hv;exact hρ _ _ h1
   |succ j=>exact g2 j y v (by simpa using hy) (by simpa using hv)
  ·cases h
theorem rW {ρ:Operand->Option AV}{a:Act}(hρ:∀ x v,ρ x=some v->v.rep R γ L (a.eval x)){op:Op}{g:FuncId}{asx:List AV}(h:dj ti ρ op=some (g,asx)) :
  ∃ f args ts caps,op = .call { callee := .value f,args,argTypes:=ts } /\ a.eval f = .func (.func g) #[] caps/\(args.map a.eval++caps).size=asx.length /\ ∀ (j:Nat) v p,(args.map a.eval++caps)[j]?=some v->asx[j]?=some p->p.rep R γ L v:=by
 have fin:∀ (args:Array Operand) (vs:List AV) (caps:Array Value) (cs:List AV),avs ρ args.toList=some vs->caps.size=cs.length->(∀ (j:Nat) v p,caps[j]?=some v->cs[j]?=some p->p.rep R γ L v) ->
   (args.map a.eval++caps).size=(vs++cs).length /\ ∀ (j:Nat) v p,(args.map a.eval++caps)[j]?=some v->(vs++cs)[j]?=some p->p.rep R γ L v:=by
  intro args vs caps cs hv hc hr;obtain⟨g1,g2⟩:=Oz hρ hv;have g1':args.size=vs.length:=by simpa using g1
  refine⟨by simp;omega,fun j v p hv hp=>?_⟩;by_cases hj:j<vs.length
  ·rw[amK hj]at hp
   rw[Array.getElem?_append_left m8,Array.getElem?_map]at hv
   cases hq:args[j]? with
   |none=>simp[hq]at hv
   |some y=>rw[hq]at hv;simp only[Option.map_some,Option.some.injEq]at hv;subst hv;exact g2 j y p (by simpa using hq) hp
  ·rw[amD m0]at hp
   rw[Array.getElem?_append_right m8]at hv;simp only[Array.size_map]at hv;rw[g1']at hv;exact hr _ v p hv hp
 unfold dj at h;split at h
 case h_2=>cases h
 rename_i f args ts;split at h
 ·rename_i g0 cs vs _ hf hv
  injection h with h;injection h with e1 e2;subst e1 e2
  have hfv:=hρ _ _ hf;generalize hev:a.eval f=fv at hfv
  cases hfv with
  |fn _ caps _ hs he =>
   refine⟨f,args,ts,caps,rfl,hev,fin args vs caps _ hv (by simpa using hs) fun j v p h1 h2=>?_⟩;rw[amT]at h2
   cases hq:cs[j]? with
   |none=>simp[hq]at h2
   |some y=>simp[hq]at h2;subst h2;exact he j v y h1 hq
 ·rename_i g0 caps vs _ hf hv
  injection h with h;injection h with e1 e2;subst e1 e2
  obtain⟨us,h1,h2,h3⟩:=hρ _ _ hf;refine⟨f,args,ts,us,rfl,h1,fin args vs us _ hv (by simpa using h2) fun j v p q1 q2=>?_⟩;rw[amT]at q2
  cases hq:caps[j]? with
  |none=>simp[hq]at q2
  |some y =>
   simp[hq]at q2;subst q2;have:=h3 j v y q1 hq
   cases y with
   |c y=>exact this
   |ptr id off=>exact this
 ·cases h
theorem gZ (hti:TIok P ti)(hi:Inv B R γ L w){a:Act}{ρ:Operand->Option AV}(hρ:∀ x v,ρ x=some v->v.rep R γ L (a.eval x)){o:Oper}{K:AV->List Ob->Prop}{next:Act->World->Prop}{Q:Exit->Act->World->Prop}
  (h:fB P ti ρ L K o.op)
  (hK:∀ v L' R' γ' w' u,K v L'->Inv B R' γ' L' w'->Ext B R R' w w'->Mv R R' γ γ' L L'->v.rep R' γ' L' u->next (a.put o.dst u) w'):o.wp P a w next Q:=by
 rcases h with⟨v,φ,hp,hφ,hk⟩|⟨v,φ,hp,hφ,hk⟩|⟨v,L',φ,hp,hφ,hk⟩|⟨g,ps,r,hc,hP,hk⟩|⟨g,es,t,k,ps,es',hc,hLt,hP,hk⟩|⟨g,k,ps,es',hc,hP,hk⟩|⟨σ,g,L0,asx,L1,r,hc,hF,hP,hk⟩|⟨v,L',_,hs,hk⟩
 ·obtain⟨u,w',R',h1,h2,h3,h4⟩:=aaF hti hi hρ hp hφ
  unfold Oper.wp;rw[h1];exact hK v L R' γ w' u hk h2 h3 (Mv.of_sub h3.sub) h4
 ·obtain⟨u,w',R',h1,h2,h3,h4⟩:=Hk hti hi hρ hp hφ
  unfold Oper.wp;rw[h1];exact hK v L R' γ w' u hk h2 h3 (Mv.of_sub h3.sub) h4
 ·obtain⟨w',R',γ',h1,h2,h3,h4⟩:=aaA hti hi hρ hp hφ
  unfold Oper.wp;rcases h1 with⟨u,h1,h5⟩|⟨h1,rfl⟩
  ·rw[h1]
   exact hK v L' R' γ' w' u hk h2 h3 h4 h5
  ·rw[h1]
   exact hK .undef L' R' γ' w' Go.undef hk h2 h3 h4 rfl
 ·obtain⟨dst,op,type,pos,after,guard⟩:=o
  simp only at hc hK;unfold oL at hc;split at hc
  ·rename_i f args argTypes
   split at hc
   ·rename_i g0 cs hf
    cases hps:dr ρ args.toList with
    |none=>simp[hps]at hc
    |some ps0 =>
     rw[hps]at hc;injection hc with hc;injection hc with e1 e2;subst e1 e2
     obtain⟨⟨fn,hfn,hbody,hname⟩,hcall⟩:=hP;have hfv:=hρ _ _ hf;generalize hev:a.eval f=fv at hfv
     cases hfv with
     |fn _ caps _ hs he =>
      obtain⟨g1,g2⟩:=jk hρ hps;have hr:(execOp a.eval { dst,op := .call { callee := .value f,args,argTypes },type,pos,after,guard }).run P w = .ok (.enter g0 (args.map a.eval++caps)) w:=by
       have hb:fn.body.isNone=false:=by cases hbb:fn.body<;>simp_all
       simp only[execOp,resolve,hev,Deferred.ofValue,Sem.run_bind,Sem.run_pure,Result.andThen_ok,invoke,callFunc,program,Sem.run];simp[hfn,hname,hb]
      unfold Oper.wp;rw[hr];refine(hcall R w (args.map a.eval++caps) hi.val (by simp[hs];simpa using g1) (fun j v p hv hp=>?_)).mono (fun e w' hh=>?_)
      ·by_cases hj:j<ps0.length
       ·rw[amK hj]at hp
        rw[Array.getElem?_append_left (by simp;have:=g1;simp at this;omega),Array.getElem?_map]at hv
        cases hq:args[j]? with
        |none=>simp[hq]at hv
        |some y =>
         rw[hq]at hv;simp only[Option.map_some,Option.some.injEq]at hv;subst hv;exact g2 j y p (by simpa using hq) hp
       ·have hg1:args.size=ps0.length:=by simpa using g1
        rw[amD m0,amT]at hp;rw[Array.getElem?_append_right m8]at hv;simp only[Array.size_map]at hv;rw[hg1]at hv
        cases hq:cs[j-ps0.length]? with
        |none=>simp[hq]at hp
        |some y =>
         rw[hq]at hp;simp only[Option.map_some,Option.some.injEq]at hp;subst hp;exact he _ v y hv hq
      ·obtain⟨v,R',rfl,h1,h2,h3⟩:=hh
       obtain⟨i1,i2⟩:=hi.later h1 h2;exact hK r.av L R' γ w' v hk i1 i2 (Mv.of_sub h1.sub) (CV.av_rep h3)
   ·cases hc
  ·cases hc
 ·obtain⟨dst,op,type,pos,after,guard⟩:=o
  simp only at hc hK;obtain⟨args,argTypes,x,xs,rfl,hxs,hx,hps⟩:=BU hc;obtain⟨⟨fn,hfn,hbody,hname⟩,hcall⟩:=hP;obtain⟨g1,g2⟩:=jk hρ hps;have hxv:=hρ _ _ hx;obtain⟨hpv,hlt,hall⟩:=hxv;obtain⟨_,hwide,hlink⟩:=hall _ _ hLt;obtain⟨gh,hgh,hlk⟩:=hlink rfl;have hob:=hi.obj t _ _ hLt hgh;have hown:KR R w es k (a.eval x) gh:=by
   match gh,hlk,hob with
   |.none,hlk,hob=>exact⟨amW hob,hlk⟩
   |.arr b c,hlk,⟨a1,a2,a3,a4⟩=>exact⟨hlk,a1,a2,a3,a4⟩
  have hr:=DJ (P:=P) (w:=w) (a:=a) (dst:=dst) (type:=type) (pos:=pos) (after:=after) (guard:=guard) (args:=args) (argTypes:=argTypes) hfn hbody hname;unfold Oper.wp;rw[hr];have hargs:args.map a.eval=#[a.eval x]++(xs.map a.eval).toArray:=by
   cases args;simp at hxs;subst hxs;simp
  rw[hargs];refine(hcall R w (a.eval x) (xs.map a.eval).toArray gh hi.val hpv hwide hown (by simpa using g1) (fun j v p hv hp=>?_)).mono (fun e w' hh=>?_)
  ·simp only[List.getElem?_toArray,amT]at hv
   cases hq:xs[j]? with
   |none=>simp[hq]at hv
   |some y=>rw[hq]at hv;simp only[Option.map_some,Option.some.injEq]at hv;subst hv;exact g2 j y p hq hp
  ·obtain⟨v',R',g',rfl,h1,h2,h3,h4,h5,h6⟩:=hh
   obtain⟨γ',i1,i2,i3,i4⟩:=ac' hi hLt hgh h1 h2 h3 h4 h5 h6 rfl;exact hK _ _ R' γ' w' v' hk i1 i2 i3 i4
 ·obtain⟨dst,op,type,pos,after,guard⟩:=o
  simp only at hc hK;obtain⟨args,argTypes,x,xs,rfl,hxs,hx,hps⟩:=zP hc;obtain⟨⟨fn,hfn,hbody,hname⟩,hcall⟩:=hP

  have hi1:=hi.tok k;have hm1:Mv R R γ (γ++[.none]) L (L++[.spare 0 k]):=Mv.push _ _ hi.len;obtain⟨g1,g2⟩:=jk hρ hps;obtain⟨ad,hxv⟩:=hρ _ _ hx;have hr:=DJ (P:=P) (w:=w) (a:=a) (dst:=dst) (type:=type) (pos:=pos) (after:=after) (guard:=guard) (args:=args) (argTypes:=argTypes) hfn hbody hname;unfold Oper.wp;rw[hr];have hargs:args.map a.eval=#[a.eval x]++(xs.map a.eval).toArray:=by
   cases args;simp at hxs;subst hxs;simp
  rw[hargs];refine(hcall R w (a.eval x) (xs.map a.eval).toArray .none hi.val (by rw[hxv];exact cO _ _ _) m5 ⟨rfl,ad,hxv⟩ (by simpa using g1) (fun j v p hv hp=>?_)).mono (fun e w' hh=>?_)
  ·simp only[List.getElem?_toArray,amT]at hv
   cases hq:xs[j]? with
   |none=>simp[hq]at hv
   |some y=>rw[hq]at hv;simp only[Option.map_some,Option.some.injEq]at hv;subst hv;exact g2 j y p hq hp
  ·obtain⟨v',R',g',rfl,h1,h2,h3,h4,h5,h6⟩:=hh
   have hE:Ext (· <w.heap.size) R R' w w':=⟨h1.below.mono fun b hb=>⟨hb,by intro e;cases e⟩,h1.sub,fun b o hb=>h1.old b o ⟨hb,by intro e;cases e⟩⟩;obtain⟨j1,j2⟩:=hi.later hE h2;obtain⟨γ',i1,i2,i3⟩:=give (n':=es'.length) j1 (hB:=fun b hb=>am9 (hi.bsz b hb) (amM _)) (s:=w.heap.size) (fun i h b hh hb=>(hi.new i h b hh hb).2) h3 h4 h5 (fun b hb=>(h6 b hb).resolve_right (by intro e;cases e)) rfl;exact hK _ _ R' γ' w' v' hk i1 j2 ((Mv.of_sub h1.sub).trans i2) i3
 ·obtain⟨dst,op,type,pos,after,guard⟩:=o
  simp only at hc hK;obtain⟨f,args,ts,caps,rfl,hev,hsz,hrep⟩:=rW hρ hc;obtain⟨⟨fn,hfn,hbody,hname⟩,hcall⟩:=hP;have hr:(execOp a.eval { dst,op := .call { callee := .value f,args,argTypes:=ts },type,pos,after,guard }).run P w = .ok (.enter g (args.map a.eval++caps)) w:=by
   have hb:fn.body.isNone=false:=by cases hbb:fn.body<;>simp_all
   simp only[execOp,resolve,hev,Deferred.ofValue,Sem.run_bind,Sem.run_pure,Result.andThen_ok,invoke,callFunc,program,Sem.run];simp[hfn,hname,hb]
  unfold Oper.wp;rw[hr];have hemb:=Gf hi hF.len hF.ob;have hinj:∀ i j,i<L0.length->j<L0.length->gX σ i=gX σ j->i=j:=by
   intro i j hi1 hj1 e;have h1:=fC (σ:=σ) (i:=i) (by rw[hF.len];exact hi1);have h2:=fC (σ:=σ) (i:=j) (by rw[hF.len];exact hj1);rw[<- e]at h2;exact mT hF.nd h1 h2
  refine(hcall _ R (CN σ γ) w (args.map a.eval++caps) (yX hi hemb hinj hF.obb) (by simpa using hsz) (fun j v p hv hp=>?_)).mono (fun e w' hh=>?_)
  ·exact AV.down hemb (hrep j v _ hv (by rw[amT,hp];rfl)) (hF.argb p (amC hp))
  ·obtain⟨v,R',γ1,rfl,h1,h2,h3,h4⟩:=hh
   obtain⟨i1,i2,i3,i4⟩:=yl hi hF.len hF.nd hF.ob h1 h2 h3;exact hK _ _ R' _ w' v hk i1 i2 i3 (AV.up i4 h4)
 ·obtain⟨w',R',γ',h1,h2,h3,h4⟩:=hs B R γ w a.eval o rfl hi (fun x _=>hρ x) ⟨fun _=>rfl,fun _=>rfl⟩
  unfold Oper.wp;rcases h1 with⟨u,h1,h5⟩|⟨h1,rfl⟩
  ·rw[h1]
   exact hK v L' R' γ' w' u hk h2 h3 h4 h5
  ·rw[h1]
   exact hK .undef L' R' γ' w' Go.undef hk h2 h3 h4 rfl
theorem de {T:Tm}{a:Act}(hT:cg N R γ L T a){d:Option Tmp}{v:AV}{u:Value}(hd:dOK N d)(hv:v.rep R γ L u):cg N R γ L (rK T d v) (a.put d u):=by
 cases d with
 |none=>exact hT
 |some d =>
  have hd':d<N:=hd;refine⟨by simp[Act.put,hT.size],hT.defers,fun t x h=>?_⟩;simp only[rK,List.lookup_cons]at h;by_cases htd:t=d
  ·subst htd
   simp at h;subst h;exact⟨u,by simp only[Act.put];exact ano (by rw[hT.size];exact hd'),hv⟩
  ·have:(t==d)=false:=by simpa using htd
   rw[this]at h;obtain⟨u',h1,h2⟩:=hT.slot t x h;exact⟨u',by simp only[Act.put];rw[ane (Ne.symm htd)];exact h1,h2⟩
theorem Aj {ops:Array Oper}{ds:List (Option Tmp)}(hds:∀ j:Nat,(ops[j]?).map (·.dst)=ds[j]?){T:Tm}{a:Act}(hT:cg N R γ L T a){o:Oper}{A B':Prop}(h:gd ds T A B' o.guard) :
  (Region.wanted o (yielded ops a.tmps)=true/\A)\/(Region.wanted o (yielded ops a.tmps)=false/\B'):=by
 cases hg:o.guard with
 |none =>
  rw[hg]at h;exact .inl ⟨by simp[Region.wanted,hg],h⟩
 |some p =>
  obtain⟨j,want⟩:=p;rw[hg]at h;simp only[gd]at h;split at h
  ·rename_i d hd
   have hd':(ops[j]?).bind (·.dst)=some d:=by
    have:=hds j;rw[hd]at this
    cases ho:ops[j]? with
    |none=>simp[ho]at this
    |some o'=>simpa[ho]using this
   split at h
   ·rename_i b hb
    obtain⟨u,h1,h2⟩:=hT.slot d _ hb
    cases h2;have hy:yielded ops a.tmps j=some b:=by simp[yielded,hd',h1]
    by_cases hbw:b=want
    ·exact .inl ⟨by simp[Region.wanted,hg,hy,hbw],h.1 hbw⟩
    ·exact .inr ⟨by simp[Region.wanted,hg,hy,hbw],h.2 (by cases b<;>cases want<;>simp_all)⟩
   ·rename_i hb
    obtain⟨u,h1,h2⟩:=hT.slot d _ hb;have h2':u=Go.undef:=h2;subst h2';have hy:yielded ops a.tmps j=none:=by simp[yielded,hd',h1,Go.undef]
    exact .inr ⟨by simp[Region.wanted,hg,hy],h⟩
   ·exact h.elim
  ·exact h.elim
theorem po (hti:TIok P ti){ops:Array Oper}{ds:List (Option Tmp)}(hds:∀ j:Nat,(ops[j]?).map (·.dst)=ds[j]?){K:Tm->List Ob->Prop}{Q:Exit->Act->World->Prop}:∀ (l:List Oper) (R:PH) (γ:List Gh) (L:List Ob) (T:Tm) (a:Act) (w:World),aB P ti N ds K l T L->Inv B R γ L w->cg N R γ L T a ->
  (∀ T' L' R' γ' w' a',K T' L'->Inv B R' γ' L' w'->cg N R' γ' L' T' a'->Ext B R R' w w'->Mv R R' γ γ' L L'->Q .normal a' w')->wpList P ops Q l a w
 |[],R,γ,L,T,a,w,h,hi,hT,hQ=>hQ T L R γ w a h hi hT (Ext.refl _ _ _) Mv.refl
 |o::rest,R,γ,L,T,a,w,h,hi,hT,hQ=>by
  obtain⟨hd,hg⟩:=h;unfold wpList;rcases Aj hds hT hg with⟨hw,hA⟩|⟨hw,hB⟩
  ·rw[if_pos hw]
   refine .inl (gZ hti hi (fun x v hx=>fK hT hx) hA fun v L' R' γ' w' u hk h1 h2 h3 h4=>?_);exact po hti hds rest R' γ' L' _ _ w' hk h1 (de (hT.mv h3) hd h4) fun T2 L2 R2 γ2 w2 a2 k1 k2 k3 k4 k5=>hQ T2 L2 R2 γ2 w2 a2 k1 k2 k3 (h2.trans k4) (h3.trans k5)
  ·rw[if_neg (by rw[hw];decide)]
   exact po hti hds rest R γ L _ _ w hB hi (de hT hd rfl) hQ
end
