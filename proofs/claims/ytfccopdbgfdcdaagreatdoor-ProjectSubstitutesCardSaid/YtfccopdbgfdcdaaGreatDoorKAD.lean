/- Parts of the proof, joined. No condition. -/
import Derived.Test.YtfccopdbgfdcdaaGreatDoorKAA
import Derived.Test.YtfccopdbgfdcdaaGreatDoorKAC
set_option linter.unusedSimpArgs false
set_option linter.unusedVariables false
namespace Go.Proofs.YtfccopdbgfdcdaaGreatDoor
open Go.RowKit
def mU (σ:List Nat) (i:Nat):Nat:=σ.getD i 0
def Cap.ren (σ:List Nat):Cap->Cap
 | .c x => .c x
 | .ptr id off => .ptr (mU σ id) off
def SV.ren (σ:List Nat):SV->SV
 | .c x => .c x
 | .emp => .emp
 | .own es t => .own es (mU σ t)
 | .ptr id off => .ptr (mU σ id) off
 | .sl id ver lo n => .sl (mU σ id) ver lo n
 | .ep id ver i o => .ep (mU σ id) ver i o
 | .mp id => .mp (mU σ id)
 | .clo f caps => .clo f (caps.map (Cap.ren σ))
def AV.ren (σ:List Nat):AV->AV
 | .one x => .one (x.ren σ)
 | .agg xs => .agg (xs.map (SV.ren σ))
 | .tup ps => .tup ps
 | .undef => .undef
def Ob.ren (σ:List Nat):Ob->Ob
 | .box cs => .box (cs.map (SV.ren σ))
 | .spare n k => .spare n k
 | .row ver es k => .row ver (es.map (List.map (SV.ren σ))) k
 | .map kvs => .map (kvs.map fun p=>(p.1,p.2.ren σ))
 | .dead => .dead
def Cap.below (n:Nat):Cap->Prop
 | .ptr id _=>id<n
 | _=>True
def SV.below (n:Nat):SV->Prop
 | .own _ t=>t<n
 | .ptr id _=>id<n
 | .sl id _ _ _=>id<n
 | .ep id _ _ _=>id<n
 | .mp id=>id<n
 | .clo _ caps => ∀ x∈caps,x.below n
 | _=>True
def AV.below (n:Nat):AV->Prop
 | .one x=>x.below n
 | .agg xs => ∀ x∈xs,x.below n
 | _=>True
def Ob.below (n:Nat):Ob->Prop
 | .box cs => ∀ x∈cs,x.below n
 | .row _ es _ => ∀ e∈es, ∀ x∈e,x.below n
 | .map kvs => ∀ p∈kvs,p.2.below n
 | _=>True
structure Jj (σ:List Nat) (γ0:List Gh) (L0:List Ob) (γ:List Gh) (L:List Ob):Prop where
 glen:γ0.length=L0.length
 gh : ∀ i,i<L0.length->γ[mU σ i]?=γ0[i]?
 ob : ∀ (i:Nat) x,L0[i]?=some x->L[mU σ i]?=some (x.ren σ)
section
variable {P:Program} {B:Nat->Prop} {R:PH} {γ0 γ:List Gh} {L0 L:List Ob} {w:World} {σ:List Nat}
theorem Jj.lt (h:Jj σ γ0 L0 γ L) {i:Nat} (hi:i<L0.length):mU σ i<L.length :=
 (adI.1 (h.ob i _ (adR hi))).1
theorem Jj.spare (h:Jj σ γ0 L0 γ L) {i n k:Nat} (hi:i<L0.length) (e:L[mU σ i]?=some (.spare n k)):L0[i]?=some (.spare n k):=by
 have h0:=adR hi
 rw [h0]
 have h1:=h.ob i _ h0
 rw [e] at h1
 injection h1 with h1
 cases hx:L0[i]<;>rw [hx] at h1<;>simp [Ob.ren] at h1
 rw [h1.1,h1.2]
theorem Jj.row (h:Jj σ γ0 L0 γ L) {i ver k:Nat} {es:List (List SV)} (hi:i<L0.length) (e:L[mU σ i]?=some (.row ver es k)) : ∃ es0,L0[i]?=some (.row ver es0 k)/\es0.length=es.length:=by
 have h0:=adR hi
 have h1:=h.ob i _ h0
 rw [e] at h1
 injection h1 with h1
 cases hx:L0[i]<;>rw [hx] at h1<;>simp [Ob.ren] at h1
 rename_i ver' es' k'
 obtain ⟨a,b,c⟩:=h1
 subst a b c
 exact ⟨es',by rw [h0,hx],by simp⟩
theorem Jj.gbox (h:Jj σ γ0 L0 γ L) {i:Nat} {g:Gh} (e:γ0[i]?=some g):γ[mU σ i]?=some g:=by
 rw [h.gh i (by rw [<- h.glen];exact (adI.1 e).1)];exact e
theorem Cap.up (h:Jj σ γ0 L0 γ L) {x:Cap} {v:Value} (hx:x.rep R γ0 v):(x.ren σ).rep R γ v:=by
 cases x with
 | c y=>exact hx
 | ptr id off=>obtain ⟨b,h1,h2⟩:=hx;exact ⟨b,h1,h.gbox h2⟩
theorem SV.up (h:Jj σ γ0 L0 γ L) {x:SV} {v:Value} (hx:x.rep R γ0 L0 v):(x.ren σ).rep R γ L v:=by
 cases x with
 | c y=>exact hx
 | emp=>exact hx
 | own es t =>
  obtain ⟨h1,hlt,h2⟩:=hx
  refine ⟨h1,h.lt hlt,fun n k e=>?_⟩
  rw [h.gh t hlt]
  exact h2 n k (h.spare hlt e)
 | ptr id off=>obtain ⟨b,h1,h2⟩:=hx;exact ⟨b,h1,h.gbox h2⟩
 | sl id ver lo n =>
  obtain ⟨h1,hlt,h2⟩:=hx
  refine ⟨h1,h.lt hlt,fun ver' es k e=>?_⟩
  obtain ⟨es0,g1,g2⟩:=h.row hlt e
  rw [h.gh id hlt, <- g2]
  exact h2 ver' es0 k g1
 | ep id ver i o =>
  obtain ⟨h1,hlt,h2⟩:=hx
  refine ⟨h1,h.lt hlt,fun ver' es k e=>?_⟩
  obtain ⟨es0,g1,g2⟩:=h.row hlt e
  rw [h.gh id hlt, <- g2]
  exact h2 ver' es0 k g1
 | mp id=>obtain ⟨b,h1,h2⟩:=hx;exact ⟨b,h1,h.gbox h2⟩
 | clo f caps =>
  obtain ⟨vs,h1,h2,h3⟩:=hx
  refine ⟨vs,h1,by simpa using h2,fun j u x hu hx=>?_⟩
  rw [ad6] at hx
  cases hq:caps[j]? with
  | none=>simp [hq] at hx
  | some y=>simp [hq] at hx;subst hx;exact Cap.up h (h3 j u y hu hq)
theorem AV.up (h:Jj σ γ0 L0 γ L) {x:AV} {v:Value} (hx:x.rep R γ0 L0 v):(x.ren σ).rep R γ L v:=by
 cases x with
 | one x=>exact SV.up h hx
 | agg xs =>
  obtain ⟨vs,h1,h2,h3⟩:=hx
  refine ⟨vs,h1,by simpa using h2,fun j u x hu hx=>?_⟩
  rw [ad6] at hx
  cases hq:xs[j]? with
  | none=>simp [hq] at hx
  | some y=>simp [hq] at hx;subst hx;exact SV.up h (h3 j u y hu hq)
 | tup ps=>exact hx
 | undef=>exact hx
theorem pV.up (h:Jj σ γ0 L0 γ L) {x:Ob} {g:Gh} (hx:pV R γ0 L0 w x g):pV R γ L w (x.ren σ) g:=by
 match x,g,hx with
 | .box cs, .box b,⟨⟨vs,E,h1,h2,h3⟩,h4⟩ =>
  refine ⟨⟨vs,E,h1,by simpa using h2,fun j u x hu hx=>?_⟩,h4⟩
  rw [ad6] at hx
  cases hq:cs[j]? with
  | none=>simp [hq] at hx
  | some y=>simp [hq] at hx;subst hx;exact SV.up h (h3 j u y hu hq)
 | .spare n k, .arr b c,h=>exact h
 | .spare n k, .none,h=>exact h
 | .row ver es k, .arr b c,⟨⟨vs,E,h1,h2,h3⟩,h4,h5,h6,h7⟩ =>
  refine ⟨⟨vs,E,h1,h2,fun i e j u x he hu hx=>?_⟩,by simpa using h4,h5,fun e he=>?_,h7⟩
  ·rw [ad6] at he
   cases hq:es[i]? with
   | none=>simp [hq] at he
   | some y =>
    simp [hq] at he;subst he
    rw [ad6] at hx
    cases hq2:y[j]? with
    | none=>simp [hq2] at hx
    | some z=>simp [hq2] at hx;subst hx;exact SV.up h (h3 i y j u z hq hu hq2)
  ·obtain ⟨y,hy,rfl⟩:=aeh.1 he
   simpa using h6 y hy
 | .row ver es k, .none,h=>have h:es=[]:=h;subst h;rfl
 | .map kvs, .box b,⟨⟨es,h1,h2,h3⟩,h4⟩ =>
  refine ⟨⟨es,h1,by simpa using h2,fun j e p he hp=>?_⟩,h4⟩
  rw [ad6] at hp
  cases hq:kvs[j]? with
  | none=>simp [hq] at hp
  | some y=>simp [hq] at hp;subst hp;exact ⟨(h3 j e y he hq).1,(h3 j e y he hq).2.1,AV.up h (h3 j e y he hq).2.2⟩
 | .dead, .none,h=>exact h
 | .dead, .box _,h=>exact h
theorem Cap.down (h:Jj σ γ0 L0 γ L) {x:Cap} {v:Value} (hx:(x.ren σ).rep R γ v) (hb:x.below L0.length):x.rep R γ0 v:=by
 cases x with
 | c y=>exact hx
 | ptr id off=>obtain ⟨b,h1,h2⟩:=hx;exact ⟨b,h1,by rw [<- h.gh id hb];exact h2⟩
theorem SV.down (h:Jj σ γ0 L0 γ L) {x:SV} {v:Value} (hx:(x.ren σ).rep R γ L v) (hb:x.below L0.length):x.rep R γ0 L0 v:=by
 cases x with
 | c y=>exact hx
 | emp=>exact hx
 | own es t =>
  obtain ⟨h1,_,h2⟩:=hx
  have hlt:t<L0.length:=hb
  refine ⟨h1,hlt,fun n k e=>?_⟩
  rw [<- h.gh t hlt]
  exact h2 n k (h.ob t _ e)
 | ptr id off=>obtain ⟨b,h1,h2⟩:=hx;exact ⟨b,h1,by rw [<- h.gh id hb];exact h2⟩
 | sl id ver lo n =>
  obtain ⟨h1,_,h2⟩:=hx
  have hlt:id<L0.length:=hb
  refine ⟨h1,hlt,fun ver' es k e=>?_⟩
  have:=h2 ver' _ k (h.ob id _ e)
  rw [<- h.gh id hlt]
  simpa using this
 | ep id ver i o =>
  obtain ⟨h1,_,h2⟩:=hx
  have hlt:id<L0.length:=hb
  refine ⟨h1,hlt,fun ver' es k e=>?_⟩
  have:=h2 ver' _ k (h.ob id _ e)
  rw [<- h.gh id hlt]
  simpa using this
 | mp id=>obtain ⟨b,h1,h2⟩:=hx;exact ⟨b,h1,by rw [<- h.gh id hb];exact h2⟩
 | clo f caps =>
  obtain ⟨vs,h1,h2,h3⟩:=hx
  exact ⟨vs,h1,by simpa using h2,fun j u x hu hx=>Cap.down h (h3 j u _ hu (by rw [ad6,hx];rfl)) (hb x (adO hx))⟩
theorem AV.down (h:Jj σ γ0 L0 γ L) {x:AV} {v:Value} (hx:(x.ren σ).rep R γ L v) (hb:x.below L0.length):x.rep R γ0 L0 v:=by
 cases x with
 | one x=>exact SV.down h hx hb
 | agg xs =>
  obtain ⟨vs,h1,h2,h3⟩:=hx
  exact ⟨vs,h1,by simpa using h2,fun j u x hu hx=>SV.down h (h3 j u _ hu (by rw [ad6,hx];rfl)) (hb x (adO hx))⟩
 | tup ps=>exact hx
 | undef=>exact hx
theorem pV.down (h:Jj σ γ0 L0 γ L) {x:Ob} {g:Gh} (hx:pV R γ L w (x.ren σ) g) (hb:x.below L0.length):pV R γ0 L0 w x g:=by
 match x,g,hx,hb with
 | .box cs, .box b,⟨⟨vs,E,h1,h2,h3⟩,h4⟩,hb =>
  exact ⟨⟨vs,E,h1,by simpa using h2,fun j u x hu hx=>SV.down h (h3 j u _ hu (by rw [ad6,hx];rfl)) (hb x (adO hx))⟩,h4⟩
 | .spare n k, .arr b c,h,_=>exact h
 | .spare n k, .none,h,_=>exact h
 | .row ver es k, .arr b c,⟨⟨vs,E,h1,h2,h3⟩,h4,h5,h6,h7⟩,hb =>
  refine ⟨⟨vs,E,h1,h2,fun i e j u x he hu hx=>?_⟩,by simpa using h4,h5,fun e he=>?_,h7⟩
  ·exact SV.down h (h3 i (e.map (SV.ren σ)) j u _ (by rw [ad6,he];rfl) hu (by rw [ad6,hx];rfl)) (hb e (adO he) x (adO hx))
  ·simpa using h6 _ (List.mem_map_of_mem he)
 | .row ver es k, .none,h,_=>have h:es.map _=[]:=h;exact List.map_eq_nil_iff.1 h
 | .map kvs, .box b,⟨⟨es,h1,h2,h3⟩,h4⟩,hb =>
  refine ⟨⟨es,h1,by simpa using h2,fun j e p he hp=>?_⟩,h4⟩
  have:=h3 j e _ he (by rw [ad6,hp];rfl)
  exact ⟨this.1,this.2.1,AV.down h this.2.2 (hb p (adO hp))⟩
 | .dead, .none,h,_=>exact h
 | .dead, .box _,h,_=>exact h
def Outside (γ0:List Gh) (w:World) (b:Nat):Prop:=b<w.heap.size /\ ∀ (i:Nat) g,γ0[i]?=some g->g.block≠some b
theorem Wl (hi:Inv B R γ L w) (h:Jj σ γ0 L0 γ L) (hinj : ∀ i j,i<L0.length->j<L0.length->mU σ i=mU σ j->i=j) (hb : ∀ x∈L0,x.below L0.length):Inv (Outside γ0 w) R γ0 L0 w:=by
 refine ⟨h.glen,hi.val,fun id x g hx hg=>?_,fun i j gi gj h1 h2 hne b hb=>?_,fun i g b hg hb=>⟨fun ho=>ho.2 i g hg hb,(hi.new _ g b (h.gbox hg) hb).2⟩,fun b hb=>hb.1⟩
 ·exact pV.down h (hi.obj _ _ g (h.ob id x hx) (h.gbox hg)) (hb x (adO hx))
 ·have b1:i<L0.length:=by rw [<- h.glen];exact (adI.1 h1).1
  have b2:j<L0.length:=by rw [<- h.glen];exact (adI.1 h2).1
  exact hi.inj _ _ gi gj (h.gbox h1) (h.gbox h2) (fun e=>hne (hinj i j b1 b2 e)) b hb
theorem Uf (hi:Inv B R γ L w) (h:Jj σ γ0 L0 γ L) {R':PH} {w':World} {σ':List Nat} {γ1 γ':List Gh} {L1 L':List Ob} (h1:Inv (Outside γ0 w) R' γ1 L1 w') (he:Ext (Outside γ0 w) R R' w w') (hm:Mv R R' γ0 γ1 L0 L1)
  (h':Jj σ' γ1 L1 γ' L') (hσ : ∀ i,i<L0.length->mU σ' i=mU σ i) (hlen:L.length<=L'.length) (hgl:γ'.length=L'.length)
  (inj' : ∀ i j,i<L1.length->j<L1.length->mU σ' i=mU σ' j->i=j)
  (all : ∀ j,j<L'.length->(∃ i,i<L1.length/\mU σ' i=j)\/(j<L.length/\(∀ i,i<L0.length->mU σ i≠j)/\L'[j]?=L[j]?/\γ'[j]?=γ[j]?))
  (new' : ∀ i,L0.length<=i->i<L1.length->L.length<=mU σ' i) :
  Inv B R' γ' L' w'/\Ext B R R' w w'/\Mv R R' γ γ' L L':=by
 have hBO : ∀ b,B b->Outside γ0 w b:=fun b hb=>⟨hi.bsz b hb,fun i g hg e=>(hi.new _ g b (h.gbox hg) e).1 hb⟩
 have hE:Ext B R R' w w':=⟨he.below.mono hBO,he.sub,fun b o hb=>he.old b o (hBO b hb)⟩
 have oth : ∀ j g b,(∀ i,i<L0.length->mU σ i≠j)->γ[j]?=some g->g.block=some b->Outside γ0 w b:=by
  intro j g b hj hg hb
  refine ⟨(hi.new j g b hg hb).2,fun i g0 hg0 e=>?_⟩
  have b1:i<L0.length:=by rw [<- h.glen];exact (adI.1 hg0).1
  exact hi.inj j _ g g0 hg (h.gbox hg0) (fun e=>hj i b1 e.symm) b hb e
 have hmv:Mv R R' γ γ' L L':=by
  have old : ∀ t,t<L.length->(∃ i,i<L0.length/\mU σ i=t)\/(L'[t]?=L[t]?/\γ'[t]?=γ[t]?):=by
   intro t ht
   rcases all t (aek ht hlen) with ⟨i,hi1,hi2⟩|⟨_,_,a,b⟩
   ·by_cases hi0:i<L0.length
    ·exact .inl ⟨i,hi0,by rw [<- hσ i hi0];exact hi2⟩
    ·have:=new' i (by omega) hi1;omega
   ·exact .inr ⟨a,b⟩
  refine ⟨he.sub,hlen,fun t n' k ht e=>?_,fun t ver es' k ht e=>?_,fun id b hg=>?_⟩
  ·rcases old t ht with ⟨i,hi0,rfl⟩|⟨a,b⟩
   ·have hi1:i<L1.length:=aek hi0 hm.len
    rw [<- hσ i hi0] at e
    obtain ⟨n,g1,g2,g3⟩:=hm.tok i n' k hi0 (h'.spare hi1 e)
    exact ⟨n,h.ob i _ g1,g2,fun q=>by rw [h.gh i hi0, <- hσ i hi0,h'.gh i hi1];exact g3 q⟩
   ·exact ⟨n',by rw [<- a];exact e,adY _,fun _=>b⟩
  ·rcases old t ht with ⟨i,hi0,rfl⟩|⟨a,b⟩
   ·have hi1:i<L1.length:=aek hi0 hm.len
    rw [<- hσ i hi0] at e
    obtain ⟨es1,q1,q2⟩:=h'.row hi1 e
    obtain ⟨ver0,es,g1,g2,g3⟩:=hm.row i ver es1 k hi0 q1
    exact ⟨ver0,_,h.ob i _ g1,g2,fun q=>⟨by have:=(g3 q).1;simp;omega,by rw [h.gh i hi0, <- hσ i hi0,h'.gh i hi1];exact (g3 q).2⟩⟩
   ·exact ⟨ver,es',by rw [<- a];exact e,adY _,fun _=>⟨rfl,b⟩⟩
  ·have ht:id<L.length:=by rw [<- hi.len];exact (adI.1 hg).1
   rcases old id ht with ⟨i,hi0,rfl⟩|⟨a,b'⟩
   ·have hi1:i<L1.length:=aek hi0 hm.len
    rw [<- hσ i hi0,h'.gh i hi1]
    exact hm.ptr i b (by rw [<- h.gh i hi0];exact hg)
   ·rw [b'];exact hg
 have back : ∀ j g,γ'[j]?=some g->(∃ i,i<L1.length/\mU σ' i=j/\γ1[i]?=some g)\/(j<L.length/\(∀ i,i<L0.length->mU σ i≠j)/\L'[j]?=L[j]?/\γ[j]?=some g):=by
  intro j g hg
  have hj:j<L'.length:=by rw [<- hgl];exact (adI.1 hg).1
  rcases all j hj with ⟨i,a,rfl⟩|⟨a,b,c,d⟩
  ·exact .inl ⟨i,a,rfl,by rw [<- h'.gh i a];exact hg⟩
  ·exact .inr ⟨a,b,c,by rw [<- d];exact hg⟩
 refine ⟨⟨hgl,h1.val,fun j x g hx hg=>?_,fun j1 j2 g1 g2 q1 q2 hne b hb=>?_,fun j g b hg hb=>?_,fun b hb=>aek (hi.bsz b hb) he.below.size⟩,hE,hmv⟩
 ·rcases back j g hg with ⟨i,a,rfl,c⟩|⟨a,b,c,d⟩
  ·have hy:=adR a
   rw [h'.ob i _ hy] at hx
   injection hx with hx;subst hx
   exact pV.up h' (h1.obj i _ g hy c)
  ·exact (hi.obj j x g (by rw [<- c];exact hx) d).mv hmv (fun b' hb'=>he.below.block b' (oth j g b' b d hb')) (fun b' o hb' e=>by rw [he.old b' o (oth j g b' b d hb')];exact e)
 ·rcases back j1 g1 q1 with ⟨i1,a1,r1,c1⟩|⟨a1,b1,_,d1⟩<;>rcases back j2 g2 q2 with ⟨i2,a2,r2,c2⟩|⟨a2,b2,_,d2⟩
  ·exact h1.inj i1 i2 g1 g2 c1 c2 (fun e=>hne (by rw [<- r1, <- r2,e])) b hb
  ·intro e;exact (h1.new i1 g1 b c1 hb).1 (oth j2 g2 b b2 d2 e)
  ·intro e;exact (h1.new i2 g2 b c2 e).1 (oth j1 g1 b b1 d1 hb)
  ·exact hi.inj j1 j2 g1 g2 d1 d2 hne b hb
 ·rcases back j g hg with ⟨i,a,_,c⟩|⟨a,b',_,d⟩
  ·exact ⟨fun hB=>(h1.new i g b c hb).1 (hBO b hB),(h1.new i g b c hb).2⟩
  ·have:=hi.new j g b d hb
   exact ⟨this.1,aek this.2 he.below.size⟩
end
def lL {α:Type} : List α->List Nat->List α->List α
 | l,i::σ,x::xs=>lL (l.set i x) σ xs
 | l,_,_=>l
theorem fK {α:Type} : ∀ (σ:List Nat) (l xs:List α),(lL l σ xs).length=l.length
 | [],l,xs=>by cases xs<;>rfl
 | i::σ,l,[]=>rfl
 | i::σ,l,x::xs=>by rw [lL,fK σ];simp
theorem vD {α:Type} : ∀ (σ:List Nat) (l xs:List α) (j:Nat),(∀ i∈σ,i≠j)->(lL l σ xs)[j]?=l[j]?
 | [],l,xs,j,_=>by cases xs<;>rfl
 | i::σ,l,[],j,_=>rfl
 | i::σ,l,x::xs,j,h=>by
  rw [lL,vD σ _ xs j (fun k hk=>h k (ad7 _ hk)),ad3 (h i (aet ..))]
theorem DN {α:Type} : ∀ (σ:List Nat) (l xs:List α) (i s:Nat),σ.Nodup->(∀ k∈σ,k<l.length)->σ[i]?=some s->i<xs.length->(lL l σ xs)[s]?=xs[i]?
 | [],l,xs,i,s,_,_,h,_=>by simp at h
 | k::σ,l,[],i,s,_,_,_,h=>by simp at h
 | k::σ,l,x::xs,i,s,hn,hb,h,hi=>by
  rw [lL]
  have hn':=List.nodup_cons.1 hn
  cases i with
  | zero =>
   simp at h;subst h
   rw [vD σ _ xs k (fun q hq e=>hn'.1 (by rw [<- e];exact hq)),ad2 (hb k (aet ..))]
   rfl
  | succ i =>
   rw [DN σ (l.set k x) xs i s hn'.2 (fun q hq=>by simpa using hb q (ad7 _ hq)) (by simpa using h) (by simpa using hi)]
   simp
theorem Du : ∀ {σ:List Nat} {i j s:Nat}, σ.Nodup->σ[i]?=some s->σ[j]?=some s->i=j
 | [],i,j,s,_,h,_=>by simp at h
 | k::σ,0,0,s,_,_,_=>rfl
 | k::σ,0,j+1,s,hn,h1,h2=>by
  simp at h1 h2;subst h1
  exact absurd (adO h2) (List.nodup_cons.1 hn).1
 | k::σ,i+1,0,s,hn,h1,h2=>by
  simp at h1 h2;subst h2
  exact absurd (adO h1) (List.nodup_cons.1 hn).1
 | k::σ,i+1,j+1,s,hn,h1,h2=>by
  have h3:σ[i]?=some s:=by simpa using h1
  have h4:σ[j]?=some s:=by simpa using h2
  have:=Du (List.nodup_cons.1 hn).2 h3 h4
  omega
def Ac (n m:Nat):List Nat:=(List.range m).map (n + ·)
def fV (σ:List Nat) (n m:Nat):List Nat:=σ++Ac n (m-σ.length)
def join {α:Type} (σ:List Nat) (l xs:List α):List α:=lL l σ xs++xs.drop σ.length
def joinL (σ:List Nat) (L L1:List Ob):List Ob:=join σ L (L1.map (Ob.ren (fV σ L.length L1.length)))
theorem ve {σ:List Nat} {n m i:Nat} (hi:i<σ.length):mU (fV σ n m) i=mU σ i:=by
 unfold mU fV
 rw [aey,aey,adW hi]
theorem mV {σ:List Nat} {i:Nat} (hi:i<σ.length):σ[i]?=some (mU σ i):=by
 unfold mU
 rw [aey,adR hi];rfl
theorem uG {σ:List Nat} {n m i:Nat} (hi:σ.length<=i) (hm:i<m):mU (fV σ n m) i=n+(i-σ.length):=by
 unfold mU fV Ac
 rw [aey,adP hi,ad6,List.getElem?_range (by omega)];rfl
theorem Su {α:Type} {σ:List Nat} {l xs:List α} {n i:Nat} (hl:l.length=n) (hn:σ.Nodup) (hb : ∀ k∈σ,k<l.length) (hi:i<xs.length):(join σ l xs)[mU (fV σ n xs.length) i]?=xs[i]?:=by
 unfold join
 by_cases h:i<σ.length
 ·rw [ve h,adW (by rw [fK];exact hb _ (adO (mV h)))]
  exact DN σ l xs i _ hn hb (mV h) hi
 ·rw [uG (by omega) hi,adP (by rw [fK];omega),fK,aes]
  congr 1;omega
theorem join_length {α:Type} (σ:List Nat) (l xs:List α):(join σ l xs).length=l.length+(xs.length-σ.length):=by
 unfold join;rw [adQ,fK,List.length_drop]
theorem Gb {α:Type} {σ:List Nat} {l xs:List α} {j:Nat} (hj:j<l.length) (h : ∀ i∈σ,i≠j):(join σ l xs)[j]?=l[j]?:=by
 unfold join
 rw [adW (by rw [fK];exact hj)]
 exact vD σ l xs j h
section
variable {P:Program} {B:Nat->Prop} {R:PH} {γ:List Gh} {L0 L:List Ob} {w:World} {σ:List Nat}
def Qu (σ:List Nat) (γ:List Gh):List Gh:=σ.map fun i=>γ.getD i .none
theorem YD (hi:Inv B R γ L w) (hlen:σ.length=L0.length) (hob : ∀ (i:Nat) x,L0[i]?=some x->L[mU σ i]?=some (x.ren σ)):Jj σ (Qu σ γ) L0 γ L:=by
 refine ⟨by simp [Qu,hlen],fun i h=>?_,hob⟩
 have hlt:mU σ i<γ.length:=by rw [hi.len];exact (adI.1 (hob i _ (adR h))).1
 unfold Qu
 rw [ad6,mV (by omega)]
 simp only [Option.map_some]
 rw [aey,adR hlt];rfl
theorem Qt (hi:Inv B R γ L w) (hlen:σ.length=L0.length) (hnd:σ.Nodup) (hob : ∀ (i:Nat) x,L0[i]?=some x->L[mU σ i]?=some (x.ren σ)) {R':PH} {w':World} {γ1:List Gh} {L1:List Ob} (h1:Inv (Outside (Qu σ γ) w) R' γ1 L1 w') (he:Ext (Outside (Qu σ γ) w) R R' w w') (hm:Mv R R' (Qu σ γ) γ1 L0 L1) :
  Inv B R' (join σ γ γ1) (joinL σ L L1) w'/\Ext B R R' w w'/\Mv R R' γ (join σ γ γ1) L (joinL σ L L1)/\Jj (fV σ L.length L1.length) γ1 L1 (join σ γ γ1) (joinL σ L L1):=by
 have hemb:=YD hi hlen hob
 have hbl : ∀ k∈σ,k<L.length:=by
  intro k hk
  obtain ⟨i,hi',rfl⟩:=List.getElem_of_mem hk
  have:mU σ i=σ[i]:=by have:=mV (σ:=σ) hi';rw [adR hi'] at this;injection this with this;exact this.symm
  rw [<- this];exact hemb.lt (by omega)
 have hbg : ∀ k∈σ,k<γ.length:=fun k hk=>by rw [hi.len];exact hbl k hk
 have hle:L0.length<=L1.length:=hm.len
 have e1:Jj (fV σ L.length L1.length) γ1 L1 (join σ γ γ1) (joinL σ L L1):=by
  refine ⟨h1.len,fun i h=>?_,fun i x hx=>?_⟩
  ·have:=Su (σ:=σ) (l:=γ) (xs:=γ1) (n:=L.length) (i:=i) hi.len hnd hbg (by rw [h1.len];exact h)
   rw [h1.len] at this;exact this
  ·have hlt:=(adI.1 hx).1
   have:=Su (σ:=σ) (l:=L) (xs:=L1.map (Ob.ren (fV σ L.length L1.length))) (n:=L.length) (i:=i) rfl hnd hbl (by simpa using hlt)
   rw [adU] at this
   unfold joinL
   rw [this,ad6,hx];rfl
 have hL':(joinL σ L L1).length=L.length+(L1.length-σ.length):=by unfold joinL;rw [join_length,adU]
 have hinj : ∀ i j,i<L1.length->j<L1.length->mU (fV σ L.length L1.length) i=mU (fV σ L.length L1.length) j->i=j:=by
  intro i j hi1 hj1 e
  by_cases a:i<σ.length<;>by_cases b:j<σ.length
  ·rw [ve a,ve b] at e
   have h1:=mV a
   have h2:=mV b
   rw [<- e] at h2
   exact Du hnd h1 h2
  ·rw [ve a,uG (by omega) hj1] at e
   have:=hbl _ (adO (mV a));omega
  ·rw [ve b,uG (by omega) hi1] at e
   have:=hbl _ (adO (mV b));omega
  ·rw [uG (by omega) hi1,uG (by omega) hj1] at e;omega
 have hall : ∀ j,j<(joinL σ L L1).length->(∃ i,i<L1.length/\mU (fV σ L.length L1.length) i=j)\/(j<L.length/\(∀ i,i<L0.length->mU σ i≠j)/\(joinL σ L L1)[j]?=L[j]?/\(join σ γ γ1)[j]?=γ[j]?):=by
  intro j hj
  rw [hL'] at hj
  by_cases hjL:j<L.length
  ·by_cases hjs:j∈σ
   ·obtain ⟨i,hi',hq⟩:=List.getElem_of_mem hjs
    refine .inl ⟨i,by omega,?_⟩
    rw [ve hi']
    have:=mV (σ:=σ) hi';rw [adR hi'] at this;injection this with this;rw [<- this];exact hq
   ·have hne : ∀ i∈σ,i≠j:=fun i hi' e=>hjs (by rw [<- e];exact hi')
    refine .inr ⟨hjL,fun i hi0 e=>hjs (by rw [<- e];exact adO (mV (by omega))),Gb hjL hne,Gb (by rw [hi.len];exact hjL) hne⟩
  ·exact .inl ⟨σ.length+(j-L.length),by omega,by rw [uG (by omega) (by omega)];omega⟩
 obtain ⟨a,b,c⟩:=Uf hi hemb h1 he hm e1 (fun i hi0=>ve (by omega)) (by rw [hL'];omega) (by rw [join_length,hL',hi.len,h1.len]) hinj hall (fun i hi0 hi1=>by rw [uG (by omega) hi1];omega)
 exact ⟨a,b,c,e1⟩
end
end Go.Proofs.YtfccopdbgfdcdaaGreatDoor
