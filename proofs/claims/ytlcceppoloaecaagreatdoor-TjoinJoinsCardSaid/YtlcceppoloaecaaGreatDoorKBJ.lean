/- Parts of the proof, joined. No condition. -/
import Derived.Test.YtlcceppoloaecaaGreatDoorKAA
import Derived.Test.YtlcceppoloaecaaGreatDoorKBI
import Derived.Test.YtlcceppoloaecaaGreatDoorKBH
import Derived.Test.YtlcceppoloaecaaGreatDoorKAL
import Derived.Test.YtlcceppoloaecaaGreatDoorKBG
import Derived.Test.YtlcceppoloaecaaGreatDoorKAI
import Derived.ProofKit
import Derived.OpenShut
import Derived.ChangeOld
import Derived.Deep.Slices
set_option linter.unusedSimpArgs false
set_option linter.unusedVariables false
namespace Go.Proofs.YtlcceppoloaecaaGreatDoor
open Go.RowKit Go.MapKept
set_option maxRecDepth 100000
set_option maxHeartbeats 4000000
section
variable {α:Type} {lt:α->α->Bool} {S:α->Prop} {cmp:α->α->Option Int}
inductive Rn (lt:α->α->Bool) (bs:Nat):List α->Prop
 | last {A:List α} : A.length<=bs->gP lt A->Rn lt bs A
 | cons {A R:List α} : A.length=bs->gP lt A->Rn lt bs R->Rn lt bs (A++R)
inductive Fu (lt:α->α->Bool) (bs:Nat):List α->Prop
 | nil:Fu lt bs []
 | snoc {P A:List α} : Fu lt bs P->A.length=bs->gP lt A->Fu lt bs (P++A)
theorem Fu.rn {bs:Nat} {P:List α} (h:Fu lt bs P) : ∀ {R:List α}, Rn lt bs R->Rn lt bs (P++R):=by
 induction h with
 | nil=>intro R h;exact h
 | @snoc P A _ hl ha ih =>
  intro R h
  rw [aqp]
  exact ih (.cons hl ha h)
theorem Rn.asc {bs:Nat} {l:List α} (h:Rn lt bs l) (hb:0<bs) (hl:l.length<=bs):gP lt l:=by
 cases h with
 | last _ ha=>exact ha
 | @cons A R h1 h2 h3 =>
  have:R=[]:=aqA.1 (by rw [ap8] at hl;omega)
  subst this
  rw [aqy];exact h2
theorem abI (h:He lt S) (hc:sO cmp lt S) {n:Nat} (hn2:n<=100000000) : ∀ (N:Nat) (P R:List α),Fu lt 20 P->(∀ z∈P++R,S z)->(P++R).length=n->R.length<N ->
  ∃ P' R' b,az (l8 (n:Int) cmp n) N (P++R,(P.length:Int),((P.length+20:Nat):Int))=some (.inl (P'++R',(P'.length:Int),b))/\Fu lt 20 P'/\R'.length<20/\(P'++R').Perm (P++R)
 | 0,P,R,_,_,_,hN=>by omega
 | N+1,P,R,hF,hS,hn,hN=>by
  have hn':=hn
  rw [ap8] at hn'
  rw [az]
  by_cases hb:P.length+20<=n
  ·obtain ⟨M,R1,rfl,hM⟩:=AU (l:=R) (s:=20) (by omega)
   rw [ap8] at hn' hN
   obtain ⟨M',k1,k2,k3⟩:=Kt h hc (n:=n) (by omega) (P:=P) (M:=M) (Q:=R1) (fun z hz=>hS z (by simp [hz])) hn
   have hM':M'.length=20:=by rw [k3.length_eq,hM]
   have hB:l8 (n:Int) cmp n (P++(M++R1),(P.length:Int),((P.length+20:Nat):Int))=some (.next ((P++M')++R1,(((P++M').length:Nat):Int),(((P++M').length+20:Nat):Int))):=by
    unfold l8
    dsimp only
    rw [ap4 (show ((P.length+20:Nat):Int)<=(n:Int) by omega),ap2, <- hM,k1,apZ,hM,show IntKind.i64.wrap (((P.length+20:Nat):Int)+20)=((P.length+20+20:Nat):Int) from wrA _ 20 (by omega)]
    simp [hM']
   rw [hB]
   obtain ⟨P',R',b,q1,q2,q3,q4⟩:=abI h hc hn2 N (P++M') R1 (.snoc hF hM' k2) (fun z hz=>by
    simp only [aqr] at hz
    rcases hz with (hz|hz)|hz
    ·exact hS z (by simp [hz])
    ·exact hS z (by simp [k3.mem_iff.1 hz])
    ·exact hS z (by simp [hz])) (by rw [ap8,ap8];omega) (by omega)
   refine ⟨P',R',b,q1,q2,q3,q4.trans ?_⟩
   rw [aqp]
   exact (k3.append_right R1).append_left P
  ·have hB:l8 (n:Int) cmp n (P++R,(P.length:Int),((P.length+20:Nat):Int))=some (.exit (P++R,(P.length:Int),((P.length+20:Nat):Int))):=by
    unfold l8
    dsimp only
    rw [ap3 (by omega),ap1]
   rw [hB]
   exact ⟨P,R,_,rfl,hF,by omega, .refl _⟩
theorem acl (h:He lt S) (hc:sO cmp lt S) {n bs:Nat} (hn2:n<=100000000) (hb:0<bs) (hb2:bs<=n) : ∀ (N:Nat) (P R:List α),Fu lt (2*bs) P->Rn lt bs R->(∀ z∈P++R,S z)->(P++R).length=n->R.length<N ->
  ∃ P' R' b,az (mG (n:Int) cmp n (bs:Int)) N (P++R,(P.length:Int),((P.length+2*bs:Nat):Int))=some (.inl (P'++R',(P'.length:Int),b))/\Fu lt (2*bs) P'/\Rn lt bs R'/\R'.length<2*bs/\(P'++R').Perm (P++R)
 | 0,P,R,_,_,_,_,hN=>by omega
 | N+1,P,R,hF,hR,hS,hn,hN=>by
  have hn':=hn
  rw [ap8] at hn'
  rw [az]
  by_cases hle:P.length+2*bs<=n
  ·
   obtain ⟨A,B,Q,rfl,hA,hB,aA,aB,hQ⟩ : ∃ A B Q,R=A++(B++Q)/\A.length=bs/\B.length=bs/\gP lt A/\gP lt B/\Rn lt bs Q:=by
    cases hR with
    | last h1 _=>omega
    | @cons A R1 h1 h2 h3 =>
     rw [ap8] at hn'
     cases h3 with
     | last g1 g2=>exact ⟨A,R1,[],by rw [aqy],h1,by omega,h2,g2, .last (aqj _) List.Pairwise.nil⟩
     | @cons B R2 g1 g2 g3=>exact ⟨A,B,R2,rfl,h1,g1,h2,g2,g3⟩
   rw [ap8,ap8] at hn' hN
   obtain ⟨M,k1,k2,k3⟩:=LH h hc (n:=n) (by omega) fuel P A B Q (by unfold fuel;omega) (by omega) (by omega) hS aA aB hn
   have hM:M.length=2*bs:=by rw [k3.length_eq,ap8];omega
   have hBo:mG (n:Int) cmp n (bs:Int) (P++(A++(B++Q)),(P.length:Int),((P.length+2*bs:Nat):Int))=some (.next ((P++M)++Q,(((P++M).length:Nat):Int),(((P++M).length+2*bs:Nat):Int))):=by
    unfold mG
    dsimp only
    rw [hA,hB,show P.length+bs+bs=P.length+2*bs by omega] at k1
    rw [ap4 (show ((P.length+2*bs:Nat):Int)<=(n:Int) by omega),ap2,wrA P.length bs (by omega),k1,apZ,show IntKind.i64.wrap ((2:Int)*(bs:Int))=((2*bs:Nat):Int) by rw [fO (by omega)];omega,wrA _ (2*bs) (by omega)]
    simp [hM]
   rw [hBo]
   obtain ⟨P',R',b,q1,q2,q3,q4,q5⟩:=acl h hc hn2 hb hb2 N (P++M) Q (.snoc hF hM k2) hQ (fun z hz=>by
    simp only [aqr] at hz
    rcases hz with (hz|hz)|hz
    ·exact hS z (by simp [hz])
    ·have:=k3.mem_iff.1 hz;simp only [aqr] at this
     rcases this with hz|hz<;>exact hS z (by simp [hz])
    ·exact hS z (by simp [hz])) (by rw [ap8,ap8];omega) (by omega)
   refine ⟨P',R',b,q1,q2,q3,q4,q5.trans ?_⟩
   rw [aqp]
   refine List.Perm.append_left P ?_
   rw [<- aqp]
   exact k3.append_right Q
  ·have hBo:mG (n:Int) cmp n (bs:Int) (P++R,(P.length:Int),((P.length+2*bs:Nat):Int))=some (.exit (P++R,(P.length:Int),((P.length+2*bs:Nat):Int))):=by
    unfold mG
    dsimp only
    rw [ap3 (by omega),ap1]
   rw [hBo]
   exact ⟨P,R,_,rfl,hF,hR,by omega, .refl _⟩
theorem XE (h:He lt S) (hc:sO cmp lt S) {n bs:Nat} (hn2:n<=100000000) (hb:0<bs) (hb2:bs<n) {c:List α} (hR:Rn lt bs c) (hS : ∀ z∈c,S z) (hn:c.length=n) : ∃ c',lZ (n:Int) cmp n (c,(bs:Int))=some (.next (c',((2*bs:Nat):Int)))/\Rn lt (2*bs) c'/\c'.Perm c:=by
 obtain ⟨P,R,b,q1,q2,q3,q4,q5⟩:=acl h hc hn2 hb (by omega) fuel [] c .nil hR hS hn (by unfold fuel;omega)
 rw [ap5] at q1 q5
 have hl:=q5.length_eq
 rw [ap8,hn] at hl
 have e2:IntKind.i64.wrap ((2:Int)*(bs:Int))=((2*bs:Nat):Int):=by rw [fO (by omega)];omega
 have e3:IntKind.i64.wrap ((bs:Int)*2)=((2*bs:Nat):Int):=by rw [fO (by omega)];omega
 simp only [aqu,aqH] at q1
 unfold lZ
 dsimp only
 rw [ap4 (show (bs:Int)<(n:Int) by omega),ap2,e2]
 rw [show ((0:Nat):Int)=0 from rfl] at q1
 rw [q1,apZ]
 unfold yP
 dsimp only
 rw [wrA P.length bs (by omega),e3]
 have hS' : ∀ z∈P++R,S z:=fun z hz=>hS z (q5.mem_iff.1 hz)
 by_cases hlt:P.length+bs<n
 ·rw [ap4 (show ((P.length+bs:Nat):Int)<(n:Int) by omega),ap2]
  obtain ⟨A,B,rfl,hA,hB,aA,aB⟩ : ∃ A B,R=A++B/\A.length=bs/\0<B.length/\gP lt A/\gP lt B:=by
   cases q3 with
   | last h1 _=>omega
   | @cons A R1 h1 h2 h3 =>
    rw [ap8] at hl q4
    exact ⟨A,R1,rfl,h1,by omega,h2,h3.asc hb (by omega)⟩
  rw [ap8] at hl q4
  obtain ⟨M,k1,k2,k3⟩:=LH h hc (n:=n) (by omega) fuel P A B [] (by unfold fuel;omega) (by omega) hB (by simpa using hS') aA aB (by rw [aqy,ap8,ap8];omega)
  have hM:M.length=A.length+B.length:=by rw [k3.length_eq,ap8]
  rw [hA,show P.length+bs+B.length=n by omega,aqy] at k1
  rw [k1,apZ,aqy]
  exact ⟨P++M,rfl,q2.rn (.last (by omega) k2),(k3.append_left P).trans q5⟩
 ·rw [ap3 (show ¬ ((P.length+bs:Nat):Int)<(n:Int) by omega),ap1]
  exact ⟨P++R,rfl,q2.rn (.last (by omega) (q3.asc hb (by omega))),q5⟩
theorem ac5 (h:He lt S) (hc:sO cmp lt S) {n:Nat} (hn2:n<=100000000) : ∀ (N bs:Nat) (c:List α),0<bs->bs<=2*n+20->Rn lt bs c->(∀ z∈c,S z)->c.length=n->n-bs<N ->
  ∃ c' b,az (lZ (n:Int) cmp n) N (c,(bs:Int))=some (.inl (c',b))/\gP lt c'/\c'.Perm c
 | 0,bs,c,_,_,_,_,_,hN=>by omega
 | N+1,bs,c,hb,hb2,hR,hS,hn,hN=>by
  rw [az]
  by_cases hlt:bs<n
  ·obtain ⟨c',k1,k2,k3⟩:=XE h hc hn2 hb hlt hR hS hn
   rw [k1]
   obtain ⟨c2,b,q1,q2,q3⟩:=ac5 h hc hn2 N (2*bs) c' (by omega) (by omega) k2 (fun z hz=>hS z (k3.mem_iff.1 hz)) (by rw [k3.length_eq];exact hn) (by omega)
   exact ⟨c2,b,q1,q2,q3.trans k3⟩
  ·have hB:lZ (n:Int) cmp n (c,(bs:Int))=some (.exit (c,(bs:Int))):=by
    unfold lZ
    dsimp only
    rw [ap3 (by omega),ap1]
   rw [hB]
   exact ⟨c,_,rfl,hR.asc hb (by omega), .refl _⟩
theorem ZG (h:He lt S) (hc:sO cmp lt S) {n:Nat} (hn2:n<=100000000) {l:List α} (hS : ∀ z∈l,S z) (hn:l.length=n) : ∃ r,Ih n l (n:Int) cmp=some r/\gP lt r/\r.Perm l:=by
 obtain ⟨P,R,b,q1,q2,q3,q4⟩:=abI h hc hn2 fuel [] l .nil hS hn (by unfold fuel;omega)
 rw [ap5] at q1 q4
 have hl:=q4.length_eq
 rw [ap8,hn] at hl
 have hS' : ∀ z∈P++R,S z:=fun z hz=>hS z (q4.mem_iff.1 hz)
 obtain ⟨M,k1,k2,k3⟩:=Kt h hc (n:=n) (by omega) (P:=P) (M:=R) (Q:=[]) (fun z hz=>hS' z (by simp [hz])) (by rw [aqy,ap8];omega)
 rw [show P.length+R.length=n by omega,aqy,aqy] at k1
 have hM:M.length=R.length:=k3.length_eq
 obtain ⟨c,b2,w1,w2,w3⟩:=ac5 h hc hn2 fuel 20 (P++M) (by omega) (by omega) (q2.rn (.last (by omega) k2)) (fun z hz=>by
  rcases aqr.1 hz with hz|hz
  ·exact hS' z (by simp [hz])
  ·exact hS' z (by simp [k3.mem_iff.1 hz])) (by rw [ap8];omega) (by unfold fuel;omega)
 refine ⟨c,?_,w2,(w3.trans (k3.append_left P)).trans q4⟩
 unfold Ih
 simp only [aqu,aqH] at q1
 rw [show ((0:Nat):Int)=0 from rfl,show ((20:Nat):Int)=20 from rfl] at q1
 rw [show ((20:Nat):Int)=20 from rfl] at w1
 rw [q1,apZ]
 unfold zw
 dsimp only
 rw [k1,apZ,w1];rfl
theorem aa4 (h:He lt S) (hc:sO cmp lt S) {n:Nat} (hn2:n<=100000000) {l:List α} (hS : ∀ z∈l,S z) (hn:l.length=n) : ∃ r,Gw n l cmp=some r/\gP lt r/\r.Perm l:=by
 obtain ⟨r,h1,h2,h3⟩:=ZG h hc hn2 hS hn
 refine ⟨r,?_,h2,h3⟩
 unfold Gw
 rw [h1];rfl
end
def MC (B:List (List Val)) (x:List Val):Nat->Nat
 | 0=>0
 | j+1=>match B[j]? with
  | some y=>if cO x y<0 then MC B x j else j+1
  | none=>j+1
def YM (B:List (List Val)) (x:List Val):List (List Val):=B.take (MC B x B.length)++x::B.drop (MC B x B.length)
def lc (l:List (List Val)):List (List Val):=l.foldl YM []
theorem Rh (B:List (List Val)) (x:List Val) : ∀ j,j<=B.length->MC B x j<=j/\(∀ i y,MC B x j<=i->i<j->B[i]?=some y->cO x y<0)/\(∀ q,MC B x j=q+1 -> ∃ y,B[q]?=some y /\ ¬ cO x y<0)
 | 0,_=>⟨aqe _,fun i y _ h=>by omega,fun q h=>by simp [MC] at h⟩
 | j+1,hj=>by
  obtain ⟨y,hy⟩:=gol_ (show j<B.length by omega)
  have e:MC B x (j+1)=if cO x y<0 then MC B x j else j+1:=by rw [MC,hy]
  rw [e]
  by_cases h:cO x y<0
  ·rw [if_pos h]
   obtain ⟨h1,h2,h3⟩:=Rh B x j (by omega)
   refine ⟨by omega,fun i z hi hij hz=>?_,h3⟩
   by_cases hij':i<j
   ·exact h2 i z hi hij' hz
   ·have:i=j:=by omega
    subst this
    rw [hy] at hz
    obtain rfl:=aqw hz
    exact h
  ·rw [if_neg h]
   refine ⟨aqe _,fun i z hi hij=>by omega,fun q hq=>?_⟩
   obtain rfl:j=q:=by omega
   exact ⟨y,hy,h⟩
theorem ad2 (B:List (List Val)) (x:List Val):(YM B x).Perm (x::B):=by
 unfold YM
 refine List.perm_middle.trans ?_
 rw [aqK]
theorem ahs {B:List (List Val)} (x:List Val) (h:Asc cO B):Asc cO (YM B x):=by
 obtain ⟨h1,h2,h3⟩:=Rh B x B.length (aqe _)
 unfold YM
 generalize MC B x B.length=p at h1 h2 h3
 have hB:Asc cO (B.take p++B.drop p):=by rw [aqK];exact h
 obtain ⟨ht,hd,hc⟩:=List.pairwise_append.1 hB
 have hx : ∀ b∈B.drop p,cO x b<=0:=by
  intro b hb
  obtain ⟨i,hi⟩:=List.getElem?_of_mem hb
  rw [aqL] at hi
  have:=h2 (p+i) b (by omega) (ap0.1 hi).1 hi
  omega
 have hl : ∀ a∈B.take p,cO a x<=0:=by
  intro a ha
  cases p with
  | zero=>simp at ha
  | succ q =>
   obtain ⟨y,hy,hn⟩:=h3 q rfl
   have hyx:cO y x<=0:=by
    have:=tCr_.anti x y
    have:=tCr_.anti y x
    omega
   have hq:q<B.length:=(ap0.1 hy).1
   have ey:=(ap0.1 hy).2
   rw [List.take_succ_eq_append_getElem hq,ey] at ha ht
   rcases aqr.1 ha with ha|ha
   ·exact tCr_.le_trans ((List.pairwise_append.1 ht).2.2 a ha y (by simp)) hyx
   ·obtain rfl:a=y:=by simpa using ha
    exact hyx
 refine List.pairwise_append.2 ⟨ht,aqV.2 ⟨hx,hd⟩,fun a ha b hb=>?_⟩
 rcases aqf.1 hb with rfl|hb
 ·exact hl a ha
 ·exact hc a ha b hb
theorem Iq : ∀ (l B:List (List Val)),Asc cO B->Asc cO (l.foldl YM B)/\(l.foldl YM B).Perm (l++B)
 | [],B,h=>⟨h,List.Perm.refl _⟩
 | x::l,B,h=>by
  obtain ⟨h1,h2⟩:=Iq l (YM B x) (ahs x h)
  refine ⟨h1,h2.trans ?_⟩
  refine ((ad2 B x).append_left l).trans ?_
  exact List.perm_middle
theorem Jg (l:List (List Val)):Asc cO (lc l):=(Iq l [] List.Pairwise.nil).1
theorem fD (l:List (List Val)):(lc l).Perm l:=by
 have:=(Iq l [] List.Pairwise.nil).2
 rwa [aqy] at this
theorem Ug {l r:List (List Val)} (h1:Asc cO r) (h2:r.Perm l):lc l=r:=Eg tCr_ (Jg l) h1 ((fD l).trans h2.symm)
def push {α β ρ:Type} (g:α->β) (N:Nat) (s:List β) (x:α):Option (Sum (List β) ρ):=bif decide (s.length+1<=N) then some (.inl (s++[g x])) else none
theorem SE {α β ρ:Type} (g:α->β) (N:Nat) : ∀ (l:List α) (s:List β),s.length+l.length<=N->d_ (ρ:=ρ) (push g N) s l=some (.inl (s++l.map g))
 | [],s,_=>by simp [d_]
 | x::l,s,h=>by
  have h':s.length+(l.length+1)<=N:=by simpa using h
  have e:push (ρ:=ρ) g N s x=some (.inl (s++[g x])):=by unfold push;rw [show decide (s.length+1<=N)=true from ap4 (by omega)];rfl
  rw [d_,e]
  have:=SE (ρ:=ρ) g N l (s++[g x]) (by simp;omega)
  simpa using this
theorem VB {α σ ρ:Type} {f:σ->α->Option (Sum σ ρ)} : ∀ (l:List α) (s:σ),(∀ s x,x∈l -> ∃ r,f s x=some r) -> ∃ r,d_ f s l=some r
 | [],s,_=>⟨_,rfl⟩
 | x::l,s,h=>by
  obtain ⟨r,hr⟩:=h s x (aqM ..)
  rw [d_,hr]
  cases r with
  | inl s'=>exact VB l s' fun s y hy=>h s y (aqm _ hy)
  | inr r=>exact ⟨_,rfl⟩
theorem FI {α:Type} : ∀ {l:List α}, l.length=2 -> ∃ c0 c1,l=[c0,c1]
 | [c0,c1],_=>⟨c0,c1,rfl⟩
theorem ac' {α:Type} : ∀ {l:List α}, l.length=3 -> ∃ c0 c1 c2,l=[c0,c1,c2]
 | [c0,c1,c2],_=>⟨c0,c1,c2,rfl⟩
theorem aoj {α:Type} : ∀ {l:List α}, l.length=7 -> ∃ c0 c1 c2 c3 c4 c5 c6,l=[c0,c1,c2,c3,c4,c5,c6]
 | [c0,c1,c2,c3,c4,c5,c6],_=>⟨c0,c1,c2,c3,c4,c5,c6,rfl⟩
theorem addr_add (b o n:Nat):(⟨b,o,none⟩:Addr).add n=⟨b,o+n,none⟩:=by
 unfold Addr.add
 split<;>simp_all
def RW {W:World} (hT:jS (fun b o=>W.cell? ⟨b,o,none⟩)):PH:=⟨fun b o=>W.cell? ⟨b,o,none⟩,hT⟩
def lu {W:World} (hT:jS (fun b o=>W.cell? ⟨b,o,none⟩)) (cs:List Value) (es:List AC):Prop:=cs.length=es.length /\ ∀ (j:Nat) u x,cs[j]?=some u->es[j]?=some x->bX (RW hT) u x
theorem lu.app {W:World} {hT:jS (fun b o=>W.cell? ⟨b,o,none⟩)} {c1 c2:List Value} {e1 e2:List AC} (h1:lu hT c1 e1) (h2:lu hT c2 e2):lu hT (c1++c2) (e1++e2):=by
 refine ⟨by rw [ap8,ap8,h1.1,h2.1],fun j u x hu hx=>?_⟩
 have hl:=h1.1
 by_cases hj:j<c1.length
 ·rw [aqc hj] at hu
  rw [aqc (by omega)] at hx
  exact h1.2 j u x hu hx
 ·rw [ap7 (by omega)] at hu
  rw [ap7 (by omega), <- hl] at hx
  exact h2.2 _ u x hu hx
theorem lu.one {W:World} {hT:jS (fun b o=>W.cell? ⟨b,o,none⟩)} {v:Value} {e:AC} (h:bX (RW hT) v e):lu hT [v] [e]:=by
 refine ⟨rfl,fun j u x hu hx=>?_⟩
 match j,hu,hx with
 | 0,hu,hx=>simp at hu hx;subst hu hx;exact h
 | j+1,hu,hx=>simp at hu
def KA (n:Int):Prop := -9223372036854775808<=n/\n<=9223372036854775807
def SOk (s:ByteArray):Prop:=s.size<=9223372036854775807
def zY {α:Type} (k:Nat) (Q:α->Prop) (l:List α):Prop:=l.length*k<=reachBytes /\ ∀ a∈l,Q a
def qc {H:Type} (t:TypeId) (d:DataW H):Prop := ∀ n∈DataW.weights Tryz.prog t d,n<=reachBytes
theorem acn {H:Type} {e:TypeId} : ∀ {l:List (DataW H)} {d:DataW H}, d∈l -> ∀ n∈DataW.weights Tryz.prog e d,n∈DataW.weightsAll Tryz.prog e l
 | x::l,d,h,n,hn=>by
  rw [DataW.weightsAll,aqr]
  rcases aqf.1 h with rfl|h
  ·exact .inl hn
  ·exact .inr (acn h n hn)
theorem eZ {H:Type} : ∀ {ts:List TypeId} {l:List (DataW H)} {i:Nat} {t:TypeId} {d:DataW H}, ts[i]?=some t->l[i]?=some d -> ∀ n∈DataW.weights Tryz.prog t d,n∈DataW.weightsEach Tryz.prog ts l
 | t0::ts,d0::l,0,t,d,h1,h2,n,hn=>by
  simp at h1 h2;subst h1 h2
  rw [DataW.weightsEach,aqr];exact .inl hn
 | t0::ts,d0::l,i+1,t,d,h1,h2,n,hn=>by
  rw [DataW.weightsEach,aqr];exact .inr (eZ (by simpa using h1) (by simpa using h2) n hn)
 | [],_,i,t,d,h1,_,n,hn=>by simp at h1
 | _::_,[],i,t,d,_,h2,n,hn=>by simp at h2
section
variable {H:Type} {enc:TypeId × Value->H} {W:World} {hT:jS (fun b o=>W.cell? ⟨b,o,none⟩)} {base:Nat} {spare:Nat->Bool} {held:Bool}
theorem dQ {t:TypeId} (ht:Tryz.prog.underlying t=some (.int .i64)) {cs:List Value} {fuel:Nat} {x:DataW H × List MemPlace} (h:DataW.trod enc Tryz.prog W base spare held fuel t cs=some x) : ∃ n:Int,lu hT cs [.int .i64 n]/\KA n:=by
 obtain ⟨n,rfl,_,hw⟩:=DataW.trod_int ht h
 rw [Lit.wf,aqg] at hw
 exact ⟨n,lu.one (.int _ _),aqs hw.1,aqs hw.2⟩
theorem WM {t:TypeId} (ht:Tryz.prog.underlying t=some .string) {cs:List Value} {fuel:Nat} {x:DataW H × List MemPlace} (h:DataW.trod enc Tryz.prog W base spare held fuel t cs=some x) : ∃ s:ByteArray,lu hT cs [.str s]/\SOk s:=by
 obtain ⟨s,rfl,_,hs⟩:=DataW.trod_string ht h
 exact ⟨s,lu.one (.str _),hs⟩
theorem dF {α:Type} {t e:TypeId} {k:Nat} {f:α->List AC} {Q:α->Prop} (ht:Tryz.prog.underlying t=some (.slice e)) (hk:Tryz.prog.cellsOf e=k) {by_:Nat} (hby:Tryz.prog.bytesOf e=by_) (hk0:0<k) (hf : ∀ x,(f x).length=k) {cs:List Value} {fuel:Nat} {x:DataW H × List MemPlace} (h:DataW.trod enc Tryz.prog W base spare held fuel t cs=some x) (hw:qc t x.1)
  (hr : ∀ (fuel':Nat) (cs':List Value) (x':DataW H × List MemPlace),fuel'<fuel->DataW.trod enc Tryz.prog W base spare held fuel' e cs'=some x'->qc e x'.1 -> ∃ a,lu hT cs' (f a)/\Q a) : ∃ l:List α,lu hT cs [.lst (l.map f)]/\zY by_ Q l:=by
 rcases DataW.trod_slice ht h with ⟨rfl,_⟩|⟨a,len,cap,elems,rest,n,hfu,rfl,hxe,_,hlc,hm,hel,hx,_,_⟩
 ·exact ⟨[],lu.one (gq _ _ _),by simp,fun a ha=>by cases ha⟩
 ·have hww:(∀ n∈DataW.weightsAll Tryz.prog e (elems.map (·.1)),n<=reachBytes)/\len*by_<=reachBytes:=by
   rw [hxe] at hw
   unfold qc at hw
   simp only [DataW.weights,ht] at hw
   refine ⟨fun n hn=>hw n (aqm _ (List.mem_append_left _ hn)),?_⟩
   have:=hw _ (aqM ..)
   simp only [aqa,hel,hby] at this
   exact Nat.le_trans (aqB _ (Nat.le_add_right _ _)) this
  have hi : ∀ i,i<len -> ∃ y,(∃ cs',W.cells? base (a.add (i*k)) k=some cs'/\lu hT cs' (f y))/\Q y:=by
   intro i hlt
   have h1:=hx i hlt
   rw [ap9 (by omega),hk] at h1
   cases hc:W.cells? base (a.add (i*k)) k with
   | none=>rw [hc] at h1;cases h1
   | some cs'=>rw [hc] at h1;obtain ⟨y,h2,h3⟩:=hr n cs' _ (by omega) h1 (fun m hm=>hww.1 m (acn (List.mem_map_of_mem (f:=fun p:DataW H × List MemPlace=>p.1) (List.getElem_mem (by omega))) m hm));exact ⟨y,⟨cs',rfl,h2⟩,h3⟩
  rcases Nat.eq_zero_or_pos len with h0|h0
  ·subst h0;exact ⟨[],lu.one (gq _ _ _),by simp,fun a ha=>by cases ha⟩
  ·obtain ⟨y0,⟨cs0,hc0,_⟩,_⟩:=hi 0 h0
   let g:Nat->α:=fun i=>if h:i<len then Classical.choose (hi i h) else y0
   have hg : ∀ i,i<len->(∃ cs',W.cells? base (a.add (i*k)) k=some cs'/\lu hT cs' (f (g i)))/\Q (g i):=by
    intro i hlt
    have:g i=Classical.choose (hi i hlt):=by simp [g,hlt]
    rw [this]
    exact Classical.choose_spec (hi i hlt)
   obtain ⟨b,off,spot⟩:=a
   have hs0:spot=none:=by
    obtain ⟨_,hl,hat⟩:=World.cells?_some hc0
    have h1:=hat 0 hk0
    rw [ap9 (by omega)] at h1
    have:=World.cell?_spot h1
    simpa [Addr.add] using this
   subst hs0
   refine ⟨(List.range len).map g,lu.one ?_,(by rw [aqa,List.length_range];exact hww.2),?_⟩
   ·have cell : ∀ i,i<len -> ∀ j,j<k -> ∃ u y,W.cell? ⟨b,off+(i*k+j),none⟩=some u/\(f (g i))[j]?=some y/\bX (RW hT) u y:=by
     intro i hlt j hj
     obtain ⟨⟨cs',hc,hcr⟩,_⟩:=hg i hlt
     obtain ⟨_,hl,hat⟩:=World.cells?_some hc
     have h1:=hat j hj
     rw [ap9 (by omega)] at h1
     have hfl:=hf (g i)
     refine ⟨_,_,?_,ap9 (by omega),hcr.2 j _ _ (ap9 (by omega)) (ap9 (by omega))⟩
     rw [addr_add,addr_add,Nat.add_assoc] at h1
     exact h1
    refine .lst (some ⟨b,off,none⟩) len cap _ k (fun j=>(W.cell? ⟨b,off+j,none⟩).getD (.bool false)) b off (by simp) hlc ?_ (fun _=>rfl) ?_ ?_
    ·intro e he
     simp only [List.map_map,aqz] at he
     obtain ⟨i,_,rfl⟩:=he
     exact hf _
    ·intro j hj
     have hd:j/k<len:=by rw [Nat.div_lt_iff_lt_mul hk0];exact hj
     obtain ⟨u,y,h1,_,_⟩:=cell (j/k) hd (j%k) (Nat.mod_lt _ hk0)
     have hjj:j/k*k+j%k=j:=by rw [Nat.mul_comm];exact Nat.div_add_mod j k
     rw [hjj] at h1
     show W.cell? _=_
     rw [h1];rfl
    ·intro i e j x he hxx
     have hlt:i<len:=by have:=(ap0.1 he).1;simpa using this
     have:e=f (g i):=by simp [hlt] at he;exact he.symm
     subst this
     have hj:j<k:=by have:=(ap0.1 hxx).1;rw [hf] at this;exact this
     obtain ⟨u,y,h1,h2,h3⟩:=cell i hlt j hj
     rw [h2] at hxx
     obtain rfl:=aqw hxx
     rw [h1];exact h3
   ·intro a ha
    simp only [aqz,List.mem_range] at ha
    obtain ⟨i,hlt,rfl⟩:=ha
    exact (hg i hlt).2
theorem BD {s:TypeId} {x:DataW H × List MemPlace} {fs:Array Field} {n:Nat} {cs:List Value} {xs:List (DataW H × List MemPlace)} (hs:Tryz.prog.underlying s=some (.struct fs)) (hx:x=(.agg (xs.map (·.1)),xs.flatMap (·.2))) (hw:qc s x.1) (hl:xs.length=fs.size) (hf : ∀ (i:Nat) (f:Field),fs[i]?=some f->DataW.trod enc Tryz.prog W base spare held n f.type ((cs.drop f.offset).take (Tryz.prog.cellsOf f.type))=xs[i]?)
  (i:Nat) {f:Field} {t o k:Nat} (hi:fs[i]?=some f) (h1:f.type=t) (h2:f.offset=o) (h3:Tryz.prog.cellsOf t=k) : ∃ y,DataW.trod enc Tryz.prog W base spare held n t ((cs.drop o).take k)=some y/\qc t y.1:=by
 have hlt:i<fs.size:=(aqJ.1 hi).1
 have:=hf i f hi
 rw [h1,h2,h3,ap9 (by omega)] at this
 refine ⟨_,this,fun m hm=>?_⟩
 rw [hx] at hw
 unfold qc at hw
 simp only [DataW.weights,hs] at hw
 refine hw m (eZ (i:=i) ?_ ?_ m hm)
 ·rw [aql,Array.getElem?_toList,hi];simp [h1]
 ·rw [aql,ap9 (by omega)];rfl
end
structure D8 (x:Val):Prop where
 kind:KA x.kind
 int:KA x.int
 text:SOk x.text
section
variable {H:Type} {enc:TypeId × Value->H} {W:World} {hT:jS (fun b o=>W.cell? ⟨b,o,none⟩)} {base:Nat} {spare:Nat->Bool} {held:Bool}
theorem ahu : ∀ (fuel:Nat) {cs:List Value} {x:DataW H × List MemPlace}, DataW.trod enc Tryz.prog W base spare held fuel 33 cs=some x->qc 33 x.1 -> ∃ a:Val,lu hT cs (cV a)/\D8 a:=by
 intro fuel
 intro cs x h hw
 obtain ⟨xs,n,hfu,hxe,hlen,hxs,hf⟩:=DataW.trod_struct Tryz.underlying33 h
 rw [show Tryz.prog.cellsOf 33=3 by kernel_rfl] at hlen
 obtain ⟨c0,c1,c2,rfl⟩:=ac' hlen
 obtain ⟨y0,h0,w0⟩:=BD Tryz.underlying33 hxe hw hxs hf 0 (t:=3) (o:=0) (k:=1) rfl rfl rfl (by kernel_rfl)
 replace h0:DataW.trod enc Tryz.prog W base spare held n 3 [c0]=some y0:=h0
 obtain ⟨l0,r0,q0⟩:=dQ Tryz.underlying3 h0
 obtain ⟨y1,h1,w1⟩:=BD Tryz.underlying33 hxe hw hxs hf 1 (t:=3) (o:=1) (k:=1) rfl rfl rfl (by kernel_rfl)
 replace h1:DataW.trod enc Tryz.prog W base spare held n 3 [c1]=some y1:=h1
 obtain ⟨l1,r1,q1⟩:=dQ Tryz.underlying3 h1
 obtain ⟨y2,h2,w2⟩:=BD Tryz.underlying33 hxe hw hxs hf 2 (t:=9) (o:=2) (k:=1) rfl rfl rfl (by kernel_rfl)
 replace h2:DataW.trod enc Tryz.prog W base spare held n 9 [c2]=some y2:=h2
 obtain ⟨l2,r2,q2⟩:=WM Tryz.underlying9 h2
 exact ⟨⟨l0,l1,l2⟩,((r0.app r1).app r2),⟨q0,q1,q2⟩⟩
end
structure J9 (x:aP):Prop where
 lo:KA x.lo
 hi:KA x.hi
section
variable {H:Type} {enc:TypeId × Value->H} {W:World} {hT:jS (fun b o=>W.cell? ⟨b,o,none⟩)} {base:Nat} {spare:Nat->Bool} {held:Bool}
theorem abG : ∀ (fuel:Nat) {cs:List Value} {x:DataW H × List MemPlace}, DataW.trod enc Tryz.prog W base spare held fuel 53 cs=some x->qc 53 x.1 -> ∃ a:aP,lu hT cs (bv a)/\J9 a:=by
 intro fuel
 intro cs x h hw
 obtain ⟨xs,n,hfu,hxe,hlen,hxs,hf⟩:=DataW.trod_struct Tryz.underlying53 h
 rw [show Tryz.prog.cellsOf 53=2 by kernel_rfl] at hlen
 obtain ⟨c0,c1,rfl⟩:=FI hlen
 obtain ⟨y0,h0,w0⟩:=BD Tryz.underlying53 hxe hw hxs hf 0 (t:=3) (o:=0) (k:=1) rfl rfl rfl (by kernel_rfl)
 replace h0:DataW.trod enc Tryz.prog W base spare held n 3 [c0]=some y0:=h0
 obtain ⟨l0,r0,q0⟩:=dQ Tryz.underlying3 h0
 obtain ⟨y1,h1,w1⟩:=BD Tryz.underlying53 hxe hw hxs hf 1 (t:=3) (o:=1) (k:=1) rfl rfl rfl (by kernel_rfl)
 replace h1:DataW.trod enc Tryz.prog W base spare held n 3 [c1]=some y1:=h1
 obtain ⟨l1,r1,q1⟩:=dQ Tryz.underlying3 h1
 exact ⟨⟨l0,l1⟩,(r0.app r1),⟨q0,q1⟩⟩
theorem Ub {cs:List Value} {fuel:Nat} {x:DataW H × List MemPlace} (h:DataW.trod enc Tryz.prog W base spare held fuel 50 cs=some x) (hw:qc 50 x.1) : ∃ l:List Val,lu hT cs [.lst (l.map cV)]/\zY 32 D8 l :=
 dF (k:=3) (f:=cV) (Q:=D8) Tryz.underlying50 (by kernel_rfl) (by kernel_rfl) (by decide) (fun _=>rfl) h hw (fun f c x _ h hw=>ahu f h hw)
end
structure zQ (x:aC):Prop where
 row:(zY 32 D8) x.row
 valid:J9 x.valid
section
variable {H:Type} {enc:TypeId × Value->H} {W:World} {hT:jS (fun b o=>W.cell? ⟨b,o,none⟩)} {base:Nat} {spare:Nat->Bool} {held:Bool}
theorem al9 : ∀ (fuel:Nat) {cs:List Value} {x:DataW H × List MemPlace}, DataW.trod enc Tryz.prog W base spare held fuel 55 cs=some x->qc 55 x.1 -> ∃ a:aC,lu hT cs (aU a)/\zQ a:=by
 intro fuel
 intro cs x h hw
 obtain ⟨xs,n,hfu,hxe,hlen,hxs,hf⟩:=DataW.trod_struct Tryz.underlying55 h
 rw [show Tryz.prog.cellsOf 55=3 by kernel_rfl] at hlen
 obtain ⟨c0,c1,c2,rfl⟩:=ac' hlen
 obtain ⟨y0,h0,w0⟩:=BD Tryz.underlying55 hxe hw hxs hf 0 (t:=50) (o:=0) (k:=1) rfl rfl rfl (by kernel_rfl)
 replace h0:DataW.trod enc Tryz.prog W base spare held n 50 [c0]=some y0:=h0
 obtain ⟨l0,r0,q0⟩:=Ub h0 w0
 obtain ⟨y1,h1,w1⟩:=BD Tryz.underlying55 hxe hw hxs hf 1 (t:=53) (o:=1) (k:=2) rfl rfl rfl (by kernel_rfl)
 replace h1:DataW.trod enc Tryz.prog W base spare held n 53 [c1,c2]=some y1:=h1
 obtain ⟨l1,r1,q1⟩:=abG n h1 w1
 exact ⟨⟨l0,l1⟩,(r0.app r1),⟨q0,q1⟩⟩
theorem ahR {cs:List Value} {fuel:Nat} {x:DataW H × List MemPlace} (h:DataW.trod enc Tryz.prog W base spare held fuel 29 cs=some x) (hw:qc 29 x.1) : ∃ l:List Int,lu hT cs [.lst (l.map (fun x=>[AC.int .i64 x]))]/\zY 8 KA l :=
 dF (k:=1) (f:=(fun x=>[AC.int .i64 x])) (Q:=KA) Tryz.underlying29 (by kernel_rfl) (by kernel_rfl) (by decide) (fun _=>rfl) h hw (fun f c x _ h hw=>dQ Tryz.underlying3 h)
theorem PG {cs:List Value} {fuel:Nat} {x:DataW H × List MemPlace} (h:DataW.trod enc Tryz.prog W base spare held fuel 22 cs=some x) (hw:qc 22 x.1) : ∃ l:List aC,lu hT cs [.lst (l.map aU)]/\zY 40 zQ l :=
 dF (k:=3) (f:=aU) (Q:=zQ) Tryz.underlying22 (by kernel_rfl) (by kernel_rfl) (by decide) (fun _=>rfl) h hw (fun f c x _ h hw=>al9 f h hw)
end
structure rz (x:bH):Prop where
 kinds:(zY 8 KA) x.kinds
 facts:(zY 40 zQ) x.facts
section
variable {H:Type} {enc:TypeId × Value->H} {W:World} {hT:jS (fun b o=>W.cell? ⟨b,o,none⟩)} {base:Nat} {spare:Nat->Bool} {held:Bool}
theorem Au : ∀ (fuel:Nat) {cs:List Value} {x:DataW H × List MemPlace}, DataW.trod enc Tryz.prog W base spare held fuel 31 cs=some x->qc 31 x.1 -> ∃ a:bH,lu hT cs (bD a)/\rz a:=by
 intro fuel
 intro cs x h hw
 obtain ⟨xs,n,hfu,hxe,hlen,hxs,hf⟩:=DataW.trod_struct Tryz.underlying31 h
 rw [show Tryz.prog.cellsOf 31=2 by kernel_rfl] at hlen
 obtain ⟨c0,c1,rfl⟩:=FI hlen
 obtain ⟨y0,h0,w0⟩:=BD Tryz.underlying31 hxe hw hxs hf 0 (t:=29) (o:=0) (k:=1) rfl rfl rfl (by kernel_rfl)
 replace h0:DataW.trod enc Tryz.prog W base spare held n 29 [c0]=some y0:=h0
 obtain ⟨l0,r0,q0⟩:=ahR h0 w0
 obtain ⟨y1,h1,w1⟩:=BD Tryz.underlying31 hxe hw hxs hf 1 (t:=22) (o:=1) (k:=1) rfl rfl rfl (by kernel_rfl)
 replace h1:DataW.trod enc Tryz.prog W base spare held n 22 [c1]=some y1:=h1
 obtain ⟨l1,r1,q1⟩:=PG h1 w1
 exact ⟨⟨l0,l1⟩,(r0.app r1),⟨q0,q1⟩⟩
end
inductive Ik:Ex->Prop
 | mk {op:Int} {int:Int} {v:Val} {nm:ByteArray} {args:(List Ex)} (h0:KA op) (h1:KA int) (h2:D8 v) (h3:SOk nm) (h4:args.length*88<=reachBytes) (g4 : ∀ a∈args,Ik a):Ik (.mk op int v nm args)
section
variable {H:Type} {enc:TypeId × Value->H} {W:World} {hT:jS (fun b o=>W.cell? ⟨b,o,none⟩)} {base:Nat} {spare:Nat->Bool} {held:Bool}
theorem YS : ∀ (fuel:Nat) {cs:List Value} {x:DataW H × List MemPlace}, DataW.trod enc Tryz.prog W base spare held fuel 36 cs=some x->qc 36 x.1 -> ∃ a:Ex,lu hT cs (tE a)/\Ik a:=by
 intro fuel
 induction fuel using Nat.strongRecOn with
 | ind fuel ih =>
 intro cs x h hw
 obtain ⟨xs,n,hfu,hxe,hlen,hxs,hf⟩:=DataW.trod_struct Tryz.underlying36 h
 rw [show Tryz.prog.cellsOf 36=7 by kernel_rfl] at hlen
 obtain ⟨c0,c1,c2,c3,c4,c5,c6,rfl⟩:=aoj hlen
 obtain ⟨y0,h0,w0⟩:=BD Tryz.underlying36 hxe hw hxs hf 0 (t:=3) (o:=0) (k:=1) rfl rfl rfl (by kernel_rfl)
 replace h0:DataW.trod enc Tryz.prog W base spare held n 3 [c0]=some y0:=h0
 obtain ⟨l0,r0,q0⟩:=dQ Tryz.underlying3 h0
 obtain ⟨y1,h1,w1⟩:=BD Tryz.underlying36 hxe hw hxs hf 1 (t:=3) (o:=1) (k:=1) rfl rfl rfl (by kernel_rfl)
 replace h1:DataW.trod enc Tryz.prog W base spare held n 3 [c1]=some y1:=h1
 obtain ⟨l1,r1,q1⟩:=dQ Tryz.underlying3 h1
 obtain ⟨y2,h2,w2⟩:=BD Tryz.underlying36 hxe hw hxs hf 2 (t:=33) (o:=2) (k:=3) rfl rfl rfl (by kernel_rfl)
 replace h2:DataW.trod enc Tryz.prog W base spare held n 33 [c2,c3,c4]=some y2:=h2
 obtain ⟨l2,r2,q2⟩:=ahu n h2 w2
 obtain ⟨y3,h3,w3⟩:=BD Tryz.underlying36 hxe hw hxs hf 3 (t:=9) (o:=5) (k:=1) rfl rfl rfl (by kernel_rfl)
 replace h3:DataW.trod enc Tryz.prog W base spare held n 9 [c5]=some y3:=h3
 obtain ⟨l3,r3,q3⟩:=WM Tryz.underlying9 h3
 obtain ⟨y4,h4,w4⟩:=BD Tryz.underlying36 hxe hw hxs hf 4 (t:=34) (o:=6) (k:=1) rfl rfl rfl (by kernel_rfl)
 replace h4:DataW.trod enc Tryz.prog W base spare held n 34 [c6]=some y4:=h4
 obtain ⟨l4,r4,q4⟩:=dF (k:=7) (f:=tE) (Q:=Ik) Tryz.underlying34 (by kernel_rfl) (by kernel_rfl) (by decide) Ui h4 w4 (fun f c x hlt h hw=>ih f (by omega) h hw)
 exact ⟨.mk l0 l1 l2 l3 l4,(by rw [aL];exact ((((r0.app r1).app r2).app r3).app r4)), .mk q0 q1 q2 q3 q4.1 q4.2⟩
end
theorem Ma : ∀ (a b x y:List UInt8),(32:UInt8)∉a->(32:UInt8)∉b->a++32::x=b++32::y->a=b/\x=y
 | [],[],x,y,_,_,h=>by simpa using h
 | [],c::b,x,y,_,hb,h=>by
  simp at h
  exact absurd h.1.symm (fun e=>hb (by rw [e];simp))
 | c::a,[],x,y,ha,_,h=>by
  simp at h
  exact absurd h.1 (fun e=>ha (by rw [e];simp))
 | c::a,d::b,x,y,ha,hb,h=>by
  simp at h
  obtain ⟨h1,h2⟩:=Ma a b x y (fun q=>ha (aqm _ q)) (fun q=>hb (aqm _ q)) h.2
  exact ⟨by rw [h.1,h1],h2⟩
def ail (b:UInt8):Prop:=48<=b.toNat/\b.toNat<=57
theorem UM {d:Nat} (h:d<10):(UInt8.ofNat (48+d)).toNat=48+d:=by
 rw [UInt8.toNat_ofNat'];omega
theorem ve (u:Nat) : ∀ b∈Lib.decDigits u,ail b:=by
 induction u using Nat.strongRecOn with
 | _ u ih =>
  intro b hb
  rw [Lib.decDigits] at hb
  split at hb
  ·rename_i h
   rw [aqF.1 hb];unfold ail;rw [UM h];omega
  ·rename_i h
   rcases aqr.1 hb with hb|hb
   ·exact ih (u/10) (by omega) b hb
   ·rw [aqF.1 hb];unfold ail;rw [UM (by omega)];omega
def Uf (l:List UInt8):Nat:=l.foldl (fun a b=>a*10+(b.toNat-48)) 0
theorem Wp (l:List UInt8) (b:UInt8):Uf (l++[b])=Uf l*10+(b.toNat-48):=by unfold Uf;rw [List.foldl_append];rfl
theorem D5 (u:Nat):Uf (Lib.decDigits u)=u:=by
 induction u using Nat.strongRecOn with
 | _ u ih =>
  rw [Lib.decDigits]
  split
  ·rename_i h
   show 0*10+((UInt8.ofNat (48+u)).toNat-48)=u
   rw [UM h];omega
  ·rename_i h
   rw [Wp,ih (u/10) (by omega),UM (by omega)];omega
theorem Ed {u v:Nat} (h:Lib.decDigits u=Lib.decDigits v):u=v:=by rw [<- D5 u,h,D5]
theorem ru (n:Int):(32:UInt8)∉Lib.itoa n:=by
 intro h
 unfold Lib.itoa at h
 split at h
 ·rcases aqf.1 h with h|h
  ·exact absurd h (by decide)
  ·have:=(ve _ _ h).1;exact absurd this (by decide)
 ·have:=(ve _ _ h).1;exact absurd this (by decide)
theorem O4 {n m:Int} (h:Lib.itoa n=Lib.itoa m):n=m:=by
 have key : ∀ (a b:Nat),Lib.decDigits a≠45::Lib.decDigits b:=by
  intro a b e
  have:=(ve a 45 (by rw [e];simp)).1
  exact absurd this (by decide)
 unfold Lib.itoa at h
 split at h<;>split at h
 ·have:=Ed (List.cons.inj h).2;omega
 ·exact absurd h.symm (key _ _)
 ·exact absurd h (key _ _)
 ·have:=Ed h;omega
def Ii (v:Val):List UInt8:=Lib.itoa v.kind++32::(Lib.itoa v.int++32::(Lib.itoa v.text.size++32::v.text.data.toList))
def Qv (l:List Val):List UInt8:=l.flatMap Ii
theorem amF (a b:ByteArray):(a++b).data.toList=a.data.toList++b.data.toList:=by simp
theorem TF (l:List Val):(eQ l).data.toList=Qv l:=by
 have : ∀ (l:List Val) (a:ByteArray),(l.foldl (fun a v=>oH a (G7 v)++v.text) a).data.toList=a.data.toList++Qv l:=by
  intro l
  induction l with
  | nil=>intro a;simp [Qv]
  | cons v l ih =>
   intro a
   rw [aqP,ih]
   have e:oH a (G7 v)=a++nR v.kind++c32++nR v.int++c32++nR v.text.size++c32:=rfl
   have e1 : ∀ n,(nR n).data.toList=Lib.itoa n:=fun n=>rfl
   have e2:c32.data.toList=[32]:=rfl
   rw [e]
   simp only [amF,e1,e2,Qv,aqC,Ii,aqp,List.cons_append,ap5]
 have:=this l ⟨#[]⟩
 simpa [eQ] using this
theorem aeH {v w:Val} {x y:List UInt8} (h:Ii v++x=Ii w++y):v=w/\x=y:=by
 unfold Ii at h
 simp only [aqp,List.cons_append] at h
 obtain ⟨h1,h⟩:=Ma _ _ _ _ (ru _) (ru _) h
 obtain ⟨h2,h⟩:=Ma _ _ _ _ (ru _) (ru _) h
 obtain ⟨h3,h⟩:=Ma _ _ _ _ (ru _) (ru _) h
 have h3:=O4 h3
 have hs:v.text.data.toList.length=w.text.data.toList.length:=by
  have e : ∀ s:ByteArray,s.data.toList.length=s.size:=fun s=>rfl
  rw [e,e];omega
 obtain ⟨h4,h5⟩:=List.append_inj h hs
 refine ⟨?_,h5⟩
 obtain ⟨a,b,⟨⟨c⟩⟩⟩:=v
 obtain ⟨a',b',⟨⟨c'⟩⟩⟩:=w
 simp only at h1 h2 h4
 rw [O4 h1,O4 h2,h4]
theorem Yh : ∀ (a b:List Val),Qv a=Qv b->a=b
 | [],[],_=>rfl
 | [],w::b,h=>by
  have:=congrArg List.length h
  simp [Qv,Ii] at this
 | v::a,[],h=>by
  have:=congrArg List.length h
  simp [Qv,Ii] at this
 | v::a,w::b,h=>by
  have h':Ii v++Qv a=Ii w++Qv b:=h
  obtain ⟨h1,h2⟩:=aeH h'
  rw [h1,Yh a b h2]
theorem key_inj {a b:List Val} (h:eQ a=eQ b):a=b:=Yh a b (by rw [<- TF, <- TF,h])
end Go.Proofs.YtlcceppoloaecaaGreatDoor
namespace Go.Proofs.YtlcceppoloaecaaGreatDoor.St
open Go.RowKit
theorem aig {A B:List ((Int × Int) × Int)} (h:(Fz A).Perm (Fz B)):VT A=VT B:=by
 have h1:qp A=qp B:=by
  funext p
  rw [y8,y8, <- Il A p, <- Il B p,Rj h]
 have h2:iM A=iM B:=by
  refine (jY A).1.ext (jY B).1 fun x=>?_
  rw [(jY A).2,(jY B).2]
  constructor
  ·rintro ⟨h3|⟨y,hy⟩,h4⟩
   ·exact ⟨.inl h3,h4⟩
   ·exact ⟨.inr ⟨y,h.mem_iff.1 hy⟩,h4⟩
  ·rintro ⟨h3|⟨y,hy⟩,h4⟩
   ·exact ⟨.inl h3,h4⟩
   ·exact ⟨.inr ⟨y,h.mem_iff.2 hy⟩,h4⟩
 unfold VT
 rw [h1,h2]
theorem QC {P:List Int} (h:fo P):P.Pairwise (· < ·):=List.pairwise_iff_getElem.2 fun i j hi hj hij=>h i j _ _ hij (ap9 hi) (ap9 hj)
theorem KV {l:List (Int × Int)} (h:l.Pairwise fun x y=>x.1<y.1):Asc l:=by
 intro i j x y hij hx hy
 obtain ⟨hi,rfl⟩:=ap0.1 hx
 obtain ⟨hj,rfl⟩:=ap0.1 hy
 exact List.pairwise_iff_getElem.1 h i j hi hj hij
theorem Sj (f:Int->Int) : ∀ (P:List Int) (acc:List (Int × Int)),P.Pairwise (· < ·)->(acc.Pairwise fun x y=>x.1<y.1)->(∀ s∈acc, ∀ x∈P,s.1<x)->(∀ s∈acc,s.2=f s.1) ->
  ((P.foldl (fun acc p=>gN acc (p,f p)) acc).Pairwise fun x y=>x.1<y.1) /\ ∀ s∈P.foldl (fun acc p=>gN acc (p,f p)) acc,(s∈acc\/s.1∈P)/\s.2=f s.1
 | [],acc,_,h2,_,h4=>⟨h2,fun s hs=>⟨.inl hs,h4 s hs⟩⟩
 | x::P,acc,h1,h2,h3,h4=>by
  rw [aqP]
  have hp:=aqV.1 h1
  have hput : ∀ s∈gN acc (x,f x),s∈acc\/s=(x,f x):=by
   intro s hs
   unfold gN at hs
   split at hs
   ·exact .inl hs
   ·rcases aqr.1 hs with hs|hs
    ·exact .inl hs
    ·exact .inr (aqF.1 hs)
  have hpw:(gN acc (x,f x)).Pairwise fun x y=>x.1<y.1:=by
   unfold gN
   split
   ·exact h2
   ·refine List.pairwise_append.2 ⟨h2,List.pairwise_singleton _ _,fun a ha b hb=>?_⟩
    rw [aqF.1 hb]
    exact h3 a ha x (by simp)
  obtain ⟨q1,q2⟩:=Sj f P (gN acc (x,f x)) hp.2 hpw (fun s hs y hy=>by
   rcases hput s hs with h|rfl
   ·exact h3 s h y (aqm _ hy)
   ·exact hp.1 y hy) (fun s hs=>by
   rcases hput s hs with h|rfl
   ·exact h4 s h
   ·rfl)
  refine ⟨q1,fun s hs=>?_⟩
  obtain ⟨h5,h6⟩:=q2 s hs
  refine ⟨?_,h6⟩
  rcases h5 with h5|h5
  ·rcases hput s h5 with h|rfl
   ·exact .inl h
   ·exact .inr (by simp)
  ·exact .inr (aqm _ h5)
theorem Oj (l:List ((Int × Int) × Int)):Asc (VT l) /\ ∀ s∈VT l,s.1<1099511627776/\s.2=qp l s.1:=by
 obtain ⟨h1,h2⟩:=Sj (qp l) (iM l) [] (QC (jY l).1) List.Pairwise.nil (fun s hs=>by cases hs) (fun s hs=>by cases hs)
 refine ⟨KV h1,fun s hs=>?_⟩
 obtain ⟨h3,h4⟩:=h2 s hs
 rcases h3 with h3|h3
 ·cases h3
 ·exact ⟨((jY l).2 s.1).1 h3 |>.2,h4⟩
theorem abV (l:List ((Int × Int) × Int)):(VT l).length<=1+2*l.length:=by
 have h1:=rf (qp l) (iM l)
 have h2:(iM l).length<=1+2*l.length:=by
  have ha : ∀ (l:List ((Int × Int) × Int)) (p:List Int),(l.foldl (fun p c=>if a_ c.1 then ins c.1.2 (ins c.1.1 p) else p) p).length<=p.length+2*l.length:=by
   intro l
   induction l with
   | nil=>intro p;simp
   | cons c l ih =>
    intro p
    rw [aqP,aqk]
    have:=ih (if a_ c.1 then ins c.1.2 (ins c.1.1 p) else p)
    have h3:(if a_ c.1 then ins c.1.2 (ins c.1.1 p) else p).length<=p.length+2:=by
     split
     ·have q1:=uT c.1.2 (ins c.1.1 p);have q2:=uT c.1.1 p;omega
     ·omega
    omega
  have h4:=ha l [0]
  have h5:(iM l).length<=(Kj l).length:=by unfold iM;exact D6 _ _
  have h6:Kj l=l.foldl (fun p c=>if a_ c.1 then ins c.1.2 (ins c.1.1 p) else p) [0]:=rfl
  rw [h6] at h5
  simp at h4;omega
 show (dW (qp l) (iM l)).length<=_
 omega
theorem JN (p:Int) : ∀ l:List ((Int × Int) × Int),(∀ c∈l,c.2=1)->0<=vB l p/\vB l p<=l.length
 | [],_=>by simp [vB]
 | c::l,h=>by
  have ih:=JN p l fun x hx=>h x (aqm _ hx)
  have hi:vB (c::l) p=(if bC c.1 p then c.2 else 0)+vB l p:=by simp [vB]
  have hc:=h c (by simp)
  rw [hi,aqk]
  split<;>omega
theorem wR {l:List ((Int × Int) × Int)} (p:Int) (h : ∀ c∈l,c.2=1) (hn:l.length<=1000000):qp l p=vB l p:=by
 have:=JN p l h
 rw [y8];unfold wrap64;omega
end Go.Proofs.YtlcceppoloaecaaGreatDoor.St
namespace Go.Proofs.YtlcceppoloaecaaGreatDoor
open Go.RowKit
def ones (ps:List aP):List J3:=ps.map fun p=>⟨p,1⟩
def cK (ps:List aP):List aP:=Jr (DL (ones ps))
theorem AO (ps:List aP) : ∀ c∈(ones ps).map toC,c.2=1:=by
 intro c hc
 obtain ⟨x,hx,rfl⟩:=aqz.1 hc
 obtain ⟨p,_,rfl⟩:=aqz.1 hx
 rfl
theorem GI (ps:List aP) (hn:ps.length<=300):Sq (DL (ones ps)):=by
 have hl:((ones ps).map toC).length=ps.length:=by simp [ones]
 obtain ⟨h1,h2⟩:=St.Oj ((ones ps).map toC)
 have h3:=St.abV ((ones ps).map toC)
 rw [hl] at h3
 have e:(DL (ones ps)).map toS=St.VT ((ones ps).map toC):=by
  unfold DL
  rw [List.map_map]
  have:(toS∘ofS)=id:=by funext x;rfl
  rw [this,List.map_id]
 refine ⟨by unfold DL;rw [aqa];omega,by rw [e];exact h1,fun s hs=>?_,fun s hs=>?_⟩
 ·have:toS s∈St.VT ((ones ps).map toC):=by rw [<- e];exact List.mem_map_of_mem hs
  exact (h2 _ this).1
 ·have:toS s∈St.VT ((ones ps).map toC):=by rw [<- e];exact List.mem_map_of_mem hs
  have h4:=(h2 _ this).2
  rw [St.wR _ (AO ps) (by omega)] at h4
  have h5:=(St.JN (toS s).1 _ (AO ps)).2
  rw [hl] at h5
  show (toS s).2<=600
  omega
theorem Yl (ps:List aP):St.Fz ((ones ps).map toC)=ps.flatMap fun p=>St.ql (toP p,1):=by
 unfold St.Fz ones
 rw [List.map_map,List.flatMap_map];rfl
theorem Z4 {ps qs:List aP} (h:(ps.filter fun p=>St.a_ (toP p)).Perm (qs.filter fun p=>St.a_ (toP p))):cK ps=cK qs:=by
 have key : ∀ l:List aP,(l.flatMap fun p=>St.ql (toP p,1))=(l.filter fun p=>St.a_ (toP p)).flatMap fun p=>St.ql (toP p,1):=by
  intro l
  induction l with
  | nil=>rfl
  | cons p l ih =>
   rw [aqC,ih,List.filter_cons]
   by_cases hp:St.a_ (toP p)=true
   ·rw [if_pos hp,aqC]
   ·have e:St.ql (toP p,1)=[]:=by unfold St.ql;rw [if_neg hp]
    rw [if_neg hp,e,ap5]
 have:DL (ones ps)=DL (ones qs):=by
  unfold DL
  rw [St.aig (A:=(ones ps).map toC) (B:=(ones qs).map toC)]
  rw [Yl,Yl,key ps,key qs]
  exact h.flatMap_right _
 unfold cK
 rw [this]
theorem aid {x:Int × Int} {l:List (Int × Int)} (h1:St.Lt l 1=[x]) (h2 : ∀ j:Nat,St.Lt l ((j:Int)+2)=[]):St.wH l=[x]:=by
 have:St.nC l=[x]:=by
  unfold St.nC
  rw [show (600:Nat)=599+1 from rfl,List.range_succ_eq_map,aqC]
  rw [show St.Lt l (((0:Nat):Int)+1)=[x] from h1]
  have:(List.map Nat.succ (List.range 599)).flatMap (fun j:Nat=>St.Lt l ((j:Int)+1))=[]:=by
   rw [List.flatMap_eq_nil_iff]
   intro j hj
   obtain ⟨k,_,rfl⟩:=aqz.1 hj
   have:=h2 k
   rw [show ((k:Int)+2)=((Nat.succ k:Nat):Int)+1 by push_cast;omega] at this
   exact this
  rw [this,aqy]
 unfold St.wH
 rw [this]
 simp [St.jJ]
theorem BI (p:Int × Int) (t:Int):St.qp [(p,1)] t=if St.bC p t then 1 else 0:=by
 rw [St.wR t (by simp) (by simp)]
 simp [St.vB]
theorem afs (p:aP) (hp:St.a_ (toP p)=true):cK [p]=[p]:=by
 obtain ⟨a,b⟩:=p
 have hv:0<=a/\a<b/\b<=1099511627776:=by
  have h:St.a_ (a,b)=true:=hp
  simp [St.a_] at h
  omega
 have hpts:St.iM [(((a,b):Int × Int),1)]=(if a=0 then [0] else [0,a])++(if b<1099511627776 then [b] else []):=by
  have e:St.Kj [(((a,b):Int × Int),1)]=St.ins b (St.ins a [0]):=by
   unfold St.Kj
   simp only [aqP,List.foldl_nil]
   rw [if_pos (show St.a_ (a,b)=true from hp)]
  unfold St.iM
  rw [e]
  have hF:(0:Int)<1099511627776:=by decide
  by_cases h0:a=0
  ·subst h0
   rw [show St.ins 0 [0]=[0] by simp [St.ins],show St.ins b [0]=[0,b] by simp only [St.ins];rw [if_pos (by omega)]]
   by_cases hb:b<1099511627776
   ·simp [List.takeWhile,hb]
   ·simp [List.takeWhile,hb]
  ·rw [show St.ins a [0]=[0,a] by simp only [St.ins];rw [if_pos (by omega)],show St.ins b [0,a]=[0,a,b] by simp only [St.ins];rw [if_pos (by omega),if_pos (by omega)]]
   have ha:a<1099511627776:=by omega
   by_cases hb:b<1099511627776
   ·simp [List.takeWhile,hb,ha,h0]
   ·simp [List.takeWhile,hb,ha,h0]
 have hof:St.VT [(((a,b):Int × Int),1)]=(if a=0 then [(0,1)] else [(0,0),(a,1)])++(if b<1099511627776 then [(b,0)] else []):=by
  unfold St.VT
  rw [hpts]
  have r0:St.qp [(((a,b):Int × Int),1)] 0=if a=0 then 1 else 0:=by
   rw [BI]
   unfold St.bC
   have:St.a_ (a,b)=true:=hp
   rw [this]
   by_cases h0:a=0
   ·subst h0;simp;omega
   ·have : ¬ a<=0:=by omega
    simp [h0,this]
  have ra:St.qp [(((a,b):Int × Int),1)] a=1:=by
   rw [BI]
   unfold St.bC
   have:St.a_ (a,b)=true:=hp
   rw [this];simp;omega
  have rb:St.qp [(((a,b):Int × Int),1)] b=0:=by
   rw [BI]
   unfold St.bC
   have:St.a_ (a,b)=true:=hp
   rw [this];simp
  by_cases h0:a=0
  ·rw [if_pos h0,if_pos h0]
   rw [if_pos h0] at r0
   by_cases hb:b<1099511627776
   ·rw [if_pos hb,if_pos hb]
    simp [St.dW,St.gN,r0,rb]
   ·rw [if_neg hb,if_neg hb]
    simp [St.dW,St.gN,r0]
  ·rw [if_neg h0,if_neg h0]
   rw [if_neg h0] at r0
   by_cases hb:b<1099511627776
   ·rw [if_pos hb,if_pos hb]
    simp [St.dW,St.gN,r0,ra,rb]
   ·rw [if_neg hb,if_neg hb]
    simp [St.dW,St.gN,r0,ra]
 have hl:St.wH (St.VT [(((a,b):Int × Int),1)])=[(a,b)]:=by
  rw [hof]
  refine aid ?_ fun j=>?_
  ·by_cases h0:a=0
   ·subst h0
    by_cases hb:b<1099511627776
    ·simp [hb,St.Lt,St.ul,St.eY,St.jV]
    ·have:b=1099511627776:=by omega
     simp [this,St.Lt,St.ul,St.eY,St.jV]
   ·by_cases hb:b<1099511627776
    ·simp [hb,h0,St.Lt,St.ul,St.eY,St.jV]
    ·have:b=1099511627776:=by omega
     simp [this,h0,St.Lt,St.ul,St.eY,St.jV]
  ·refine St.Lp.2 fun s hs=>?_
   have:s.2=0\/s.2=1:=by
    rcases aqr.1 hs with hs|hs
    ·split at hs
     ·rw [aqF.1 hs];exact .inr rfl
     ·rcases aqf.1 hs with rfl|hs
      ·exact .inl rfl
      ·rw [aqF.1 hs];exact .inr rfl
    ·split at hs
     ·rw [aqF.1 hs];exact .inl rfl
     ·cases hs
   omega
 unfold cK Jr DL ones
 rw [List.map_map,show (toS∘ofS)=id from rfl,List.map_id]
 show ((St.wH (St.VT [(((a,b):Int × Int),1)])).map ofP)=_
 rw [hl];rfl
open Go.RowKit Go.Shelf Go.Lib Go.Sort
set_option maxHeartbeats 2000000
instance : Inhabited eF := ⟨⟨0, 0⟩⟩
def gI (k:Int):List SV:=[.c (.int .i64 k)]
def XY (p:eF):List SV:=[.c (.int .i64 p.a), .c (.int .i64 p.b)]
theorem RB {n:Nat} : ∀ {o:List Int}, (∀ k∈o,0<=k/\k<(n:Int)) -> ∃ d:List (aeR n),d.map (·.1)=o
 | [],_=>⟨[],rfl⟩
 | k::o,h=>by
  obtain ⟨d,e⟩:=RB (o:=o) fun t ht=>h t (aqm _ ht)
  have hk:=h k (aqM ..)
  exact ⟨⟨k,hk.1, .inl hk.2⟩::d,congrArg (k :: ·) e⟩
theorem RZ {n:Nat} (d:List (aeR n)):d.map (ak6 n).tr=(d.map (·.1)).map gI:=by
 rw [List.map_map];rfl
theorem Yn {b:List aC} (hb:b.length<=1000) {o:List Int} (hr : ∀ k∈o,0<=k/\k<(b.length:Int)) (v m:Nat) (hm:o.length=m) (hm2:m<=1000000) :
  ∃ o':List Int,o'.Perm o/\o'.Pairwise (fun x y => ¬ wZ b y<wZ b x)/\Run Tryz.prog 39 [.row v (o.map gI) 1] [.one (.sl 0 v 0 m), .one (.c (.fn 40 [.ref [.lst (b.map aU)]]))] [.row v (o'.map gI) 1] (.tup []):=by
 obtain ⟨d,rfl⟩:=RB hr
 have hO:=aoe (α:=aeR b.length) fun x=>wZ b x.1
 have hd:d≠[]->0<b.length:=fun h=>by
  cases d with
  | nil=>exact absurd rfl h
  | cons x d=>have:=hr x.1 (by simp);omega
 have hrun:=ael (P:=Tryz.prog) (F:=ak6 b.length) rfl Tryz.sortInt (fun x y=>Lib.compareInt (wZ b x.1) (wZ b y.1)) hO 40 [.ref [.lst (b.map aU)]] (pre:=[]) (d:=d) (post:=[])
  (enters_of Tryz.func40 (by kernel_rfl) rfl) (fun h=>ae' (hd h) hb) ⟨_,Tryz.func39,by kernel_rfl,by kernel_rfl⟩ v 0 m rfl (by rw [<- hm];simp) (by omega)
 refine ⟨(bZ (fun x y=>Lib.compareInt (wZ b x.1) (wZ b y.1)) d).map (·.1),(qH hO d).map _,?_,?_⟩
 ·rw [List.pairwise_map]
  refine (Ak hO d).imp fun {x y} h hlt=>h ?_
  have:=ltC (fun z:aeR b.length=>wZ b z.1) y x
  unfold ltOf at this
  rw [decide_eq_decide] at this
  exact this.2 hlt
 ·simp only [ap5,aqy] at hrun
  rw [RZ,RZ] at hrun
  exact hrun
theorem aah (pre d:List eF) (v lo n:Nat) (hlo:pre.length=lo) (hn:d.length=n) (hsz:n<=1000000) :
  ∃ d':List eF,d'.Perm d/\d'.Pairwise (fun x y => ¬ y.b<x.b)/\Run Tryz.prog 42 [.row v ((pre++d).map XY) 2] [.one (.sl 0 v lo n), .one (.c (.fn 43 []))] [.row v ((pre++d').map XY) 2] (.tup []):=by
 have hO:=aoe (α:=eF) fun x=>x.b
 have hrun:=Sv (P:=Tryz.prog) (F:=alu) Tryz.sortPair Tryz.isAgg63 Tryz.sizeOf63 (fun x y=>Lib.compareInt x.b y.b) hO 43 [] (pre:=pre) (d:=d) (post:=[])
  (enters_of Tryz.func43 (by kernel_rfl) rfl) (fun _=>ags) ⟨_,Tryz.func42,by kernel_rfl,by kernel_rfl⟩ v lo n hlo hn (by omega)
 refine ⟨bZ (fun x y=>Lib.compareInt x.b y.b) d,qH hO d,?_,?_⟩
 ·refine (Ak hO d).imp fun {x y} h hlt=>h ?_
  have:=ltC (fun z:eF=>z.b) y x
  unfold ltOf at this
  rw [decide_eq_decide] at this
  exact this.2 hlt
 ·rw [aqy,aqy] at hrun
  exact hrun
open Go.RowKit Go.MapKept
def mZ {α:Type} (q:α->Bool):List α->Nat->List Int
 | [],_=>[]
 | y::b,k=>(bif q y then [(k:Int)] else [])++mZ q b (k+1)
def sH {α:Type} (q:α->Bool) (i:Int) (b:List α) (k:Nat):List eF:=(mZ q b k).map fun j=>⟨i,j⟩
def fG {α:Type} (q:α->α->Bool) (b:List α):List α->Nat->List eF
 | [],_=>[]
 | x::a,i=>sH (q x) (i:Int) b 0++fG q b a (i+1)
theorem L8 {α:Type} (q:α->Bool) : ∀ (b:List α) (k:Nat) (j:Int),j∈mZ q b k->(k:Int)<=j/\j<((k+b.length:Nat):Int)
 | [],_,_,h=>by cases h
 | y::b,k,j,h=>by
  rw [mZ,aqr] at h
  rcases h with h|h
  ·cases hq:q y with
   | false=>rw [hq] at h;cases h
   | true=>rw [hq,ap2,aqF] at h;subst h;simp;omega
  ·have:=L8 q b (k+1) j h
   simp only [aqk];omega
theorem Oh {α:Type} (q:α->Bool) : ∀ (b:List α) (k:Nat),(mZ q b k).Pairwise (· < ·)
 | [],_=>List.Pairwise.nil
 | y::b,k=>by
  rw [mZ]
  cases q y with
  | false=>exact Oh q b (k+1)
  | true =>
   rw [ap2,List.singleton_append,aqV]
   exact ⟨fun j hj=>by have:=(L8 q b (k+1) j hj).1;omega,Oh q b (k+1)⟩
theorem Mh {α:Type} (q:α->Bool) : ∀ (b:List α) (k:Nat),(mZ q b k).length=b.countP q
 | [],_=>rfl
 | y::b,k=>by
  rw [mZ,ap8,Mh q b (k+1),List.countP_cons]
  cases q y<;>simp<;>omega
theorem FO {α:Type} (q:α->Bool) (b:List α) (k:Nat):(mZ q b k).length<=b.length:=by rw [Mh];exact List.countP_le_length
theorem acj {α:Type} (q:α->Bool) (b0:List α) : ∀ (b pre:List α),b0=pre++b -> ∀ j∈mZ q b pre.length, ∃ y,b0[j.toNat]?=some y/\q y=true/\0<=j
 | [],_,_,j,h=>by cases h
 | y::b,pre,e,j,h=>by
  rw [mZ,aqr] at h
  rcases h with h|h
  ·cases hq:q y with
   | false=>rw [hq] at h;cases h
   | true =>
    rw [hq,ap2,aqF] at h
    subst h
    refine ⟨y,?_,hq,by omega⟩
    rw [e,Int.toNat_natCast,ap7 (aqe _),Nat.sub_self];rfl
  ·have:=acj q b0 b (pre++[y]) (by rw [e];simp) j (by rw [ap8];exact h)
   exact this
theorem Kz {α:Type} (q r:α->Bool) (p:Int->Bool) (b0:List α) : ∀ (b pre:List α),b0=pre++b->(∀ (j:Nat) y,b0[j]?=some y->p (j:Int)=r y)->(mZ q b pre.length).filter p=mZ (fun y=>q y&&r y) b pre.length
 | [],_,_,_=>rfl
 | y::b,pre,e,hp=>by
  rw [mZ,mZ,List.filter_append]
  have h1:=Kz q r p b0 b (pre++[y]) (by rw [e];simp) hp
  rw [ap8,List.length_singleton] at h1
  rw [h1]
  congr 1
  have hy:b0[pre.length]?=some y:=by rw [e,ap7 (aqe _),Nat.sub_self];rfl
  cases hq:q y with
  | false=>simp
  | true=>rw [ap2,List.filter_cons,List.filter_nil,hp _ y hy,aqx];cases r y<;>rfl
theorem YO : ∀ {l m:List Int}, l.Pairwise (fun x y => ¬ y<x)->m.Pairwise (· < ·)->l.Perm m->l=m
 | [],m,_,_,h=>(List.nil_perm.1 h).symm▸rfl
 | x::l,[],_,_,h=>absurd h.length_eq (by simp)
 | x::l,y::m,hl,hm,h=>by
  rw [aqV] at hl hm
  have hxy:x=y:=by
   rcases aqf.1 (h.mem_iff.1 (aqM ..)) with e|e
   ·exact e
   ·rcases aqf.1 (h.mem_iff.2 (aqM ..)) with e'|e'
    ·exact e'.symm
    ·exact absurd (hm.1 x e) (hl.1 y e')
  subst hxy
  rw [YO hl.2 hm.2 (List.Perm.cons_inv h)]
theorem FW (lo:Int->Int) (t:Int) : ∀ {l:List Int}, l.Pairwise (fun x y => ¬ lo y<lo x)->l.takeWhile (fun k=>decide (lo k<t))=l.filter fun k=>decide (lo k<t)
 | [],_=>rfl
 | x::l,h=>by
  rw [aqV] at h
  rw [List.takeWhile_cons,List.filter_cons]
  by_cases hx:lo x<t
  ·rw [if_pos (ap4 hx),if_pos (ap4 hx),FW lo t h.2]
  ·rw [if_neg (by simp [hx]),if_neg (by simp [hx])]
   symm
   rw [List.filter_eq_nil_iff]
   intro y hy
   have:=h.1 y hy
   simp;omega
def nQ (p q:aP):Bool:=(aD p&&aD q)&&(decide (p.lo<q.hi)&&decide (q.lo<p.hi))
def kF (b:List aC) (k:Int):aP:=match b[k.toNat]? with
 | some y=>y.valid
 | none=>⟨0,0⟩
def adg (b:List aC) (ord:List Int) (f:aP):List Int:=(ord.takeWhile fun k=>decide ((kF b k).lo<f.hi)).filter fun k=>decide (f.lo<(kF b k).hi)
theorem aeD {b:List aC} {ord:List Int} (hp:ord.Perm (mZ (fun y=>aD y.valid) b 0)) (hs:ord.Pairwise fun x y => ¬ (kF b y).lo<(kF b x).lo) {f:aP} (hf:aD f=true) :
  (adg b ord f).Perm (mZ (fun y=>nQ f y.valid) b 0):=by
 unfold adg
 rw [FW (fun k=>(kF b k).lo) f.hi hs,List.filter_filter]
 have h1:=Kz (fun y:aC=>aD y.valid) (fun y=>decide (f.lo<y.valid.hi)&&decide (y.valid.lo<f.hi)) (fun k=>decide (f.lo<(kF b k).hi)&&decide ((kF b k).lo<f.hi)) b b [] rfl
  (fun j y hy=>by unfold kF;rw [Int.toNat_natCast,hy])
 refine (hp.filter _).trans ?_
 rw [aqu] at h1
 rw [h1]
 have:(fun y:aC=>aD y.valid&&(decide (f.lo<y.valid.hi)&&decide (y.valid.lo<f.hi)))=fun y=>nQ f y.valid:=by
  funext y
  unfold nQ
  rw [hf,aqx]
 rw [this]
theorem afC {i:Int} {ks m:List Int} {r:List eF} (h1:r.Perm (ks.map fun j=>(⟨i,j⟩:eF))) (h2:r.Pairwise fun x y => ¬ y.b<x.b) (h3:ks.Perm m) (h4:m.Pairwise (· < ·)):r=m.map fun j=>⟨i,j⟩:=by
 have e1:r=(r.map eF.b).map fun j=>(⟨i,j⟩:eF):=by
  rw [List.map_map]
  conv=>lhs;rw [<- List.map_id r]
  refine List.map_congr_left fun x hx=>?_
  obtain ⟨j,_,rfl⟩:=aqz.1 (h1.mem_iff.1 hx)
  rfl
 have e2:r.map eF.b=m:=by
  refine YO ?_ h4 ?_
  ·rw [List.pairwise_map];exact h2
  ·have:=h1.map eF.b
   rw [List.map_map] at this
   exact (this.trans (by rw [show (eF.b∘fun j:Int=>(⟨i,j⟩:eF))=id from rfl,List.map_id])).trans h3
 rw [e1,e2]
end Go.Proofs.YtlcceppoloaecaaGreatDoor
