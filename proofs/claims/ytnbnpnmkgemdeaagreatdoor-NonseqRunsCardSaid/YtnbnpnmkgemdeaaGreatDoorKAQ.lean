/- Parts. No condition. -/
import Derived.Test.YtnbnpnmkgemdeaaGreatDoorKAP
import Derived.Lib.Bytealg
import Derived.Shelf.Spec.SlicesGrow
import Derived.Shelf.SlGeneric
import Derived.Shelf.LaysM
import Derived.Shelf.Strconv.Itoa3
import Derived.Ground.NamesProg
import Derived.Lib.Walk
import Derived.Lib.ItoaMem
import Derived.BigCall
import Derived.BigGuard
import Derived.Lib.AppendIntMem
set_option maxHeartbeats 8000000
set_option maxRecDepth 100000
set_option linter.unusedSimpArgs false
set_option linter.unusedVariables false
namespace Go.Proofs.YtnbnpnmkgemdeaaGreatDoor
open IntKind (i64)
open Go.RowKit Go.MapKept Tryz
section
variable {α:Type} {lt:α->α->Bool} {S:α->Prop} {cmp:α->α->Option Int}
inductive Rn (lt:α->α->Bool)(bs:Nat):List α->Prop
 |last {A:List α}:A.length<=bs->dm lt A->Rn lt bs A
 |cons {A R:List α}:A.length=bs->dm lt A->Rn lt bs R->Rn lt bs (A++R)
inductive Fu (lt:α->α->Bool)(bs:Nat):List α->Prop
 |nil:Fu lt bs []
 |snoc {P A:List α}:Fu lt bs P->A.length=bs->dm lt A->Fu lt bs (P++A)
theorem Fu.rn {bs:Nat}{P:List α}(h:Fu lt bs P):∀ {R:List α},Rn lt bs R->Rn lt bs (P++R):=by
 induction h with
 |nil=>intro R h;exact h
 | @snoc P A _ hl ha ih =>
  intro R h;rw[aig];exact ih (.cons hl ha h)
theorem Rn.asc {bs:Nat}{l:List α}(h:Rn lt bs l)(hb:0<bs)(hl:l.length<=bs):dm lt l:=by
 cases h with
 |last _ ha=>exact ha
 | @cons A R h1 h2 h3 =>
  have:R=[]:=aiq.1 (by rw[ahZ]at hl;omega);subst this;rw[aio];exact h2
theorem MM (h:tV lt S)(hc:kM cmp lt S){n:Nat}(V3:n<=100000000):∀ (N:Nat) (P R:List α),Fu lt 20 P->(∀ z∈P++R,S z)->(P++R).length=n->R.length<N ->
  ∃ P' R' b,af (gf (n:Int) cmp n) N (P++R,(P.length:Int),((P.length+20:Nat):Int))=some (.inl (P'++R',(P'.length:Int),b))/\Fu lt 20 P'/\R'.length<20/\(P'++R').Perm (P++R)
 |0,P,R,_,_,_,hN=>by omega
 |N+1,P,R,hF,hS,hn,hN=>by
  have UT:=hn;rw[ahZ]at UT;rw[af];by_cases hb:P.length+20<=n
  .obtain⟨M,R1,rfl,hM⟩:=pT (l:=R) (s:=20) m0
   rw[ahZ]at UT hN;obtain⟨M',k1,k2,k3⟩:=xH h hc (n:=n) m0 (P:=P) (M:=M) (Q:=R1) (λz hz=>hS z (by simp[hz])) hn;have hM':M'.length=20:=by rw[k3.length_eq,hM]
   have hB:gf (n:Int) cmp n (P++(M++R1),(P.length:Int),((P.length+20:Nat):Int))=some (.next ((P++M')++R1,(((P++M').length:Nat):Int),(((P++M').length+20:Nat):Int))):=by
    unfold gf;dsimp only;rw[ahV (show((P.length+20:Nat):Int)<=(n:Int)by omega),ahT,<- hM,k1,ahQ,hM,show i64.wrap (((P.length+20:Nat):Int)+20)=((P.length+20+20:Nat):Int)from wrA _ 20 m0];simp[hM']
   rw[hB];obtain⟨P',R',b,q1,q2,q3,q4⟩:=MM h hc V3 N (P++M') R1 (.snoc hF hM' k2) (λz hz=>by
    simp only[aih]at hz;obtain(hz|hz)|hz:=hz
    .exact hS z (by simp[hz])
    .exact hS z (by simp[k3.mem_iff.1 hz])
    .exact hS z (by simp[hz])) (by rw[ahZ,ahZ];omega) m0
   refine⟨P',R',b,q1,q2,q3,q4.trans ?_⟩;rw[aig];exact(k3.append_right R1).append_left P
  .have hB:gf (n:Int) cmp n (P++R,(P.length:Int),((P.length+20:Nat):Int))=some (.exit (P++R,(P.length:Int),((P.length+20:Nat):Int))):=by
    unfold gf;dsimp only;rw[ahU m0,ahS]
   rw[hB];exact⟨P,R,_,rfl,hF,m0,.refl _⟩
theorem ML (h:tV lt S)(hc:kM cmp lt S){n bs:Nat}(V3:n<=100000000)(hb:0<bs)(Pe:bs<=n):∀ (N:Nat) (P R:List α),Fu lt (2*bs) P->Rn lt bs R->(∀ z∈P++R,S z)->(P++R).length=n->R.length<N ->
  ∃ P' R' b,af (gl (n:Int) cmp n (bs:Int)) N (P++R,(P.length:Int),((P.length+2*bs:Nat):Int))=some (.inl (P'++R',(P'.length:Int),b))/\Fu lt (2*bs) P'/\Rn lt bs R'/\R'.length<2*bs/\(P'++R').Perm (P++R)
 |0,P,R,_,_,_,_,hN=>by omega
 |N+1,P,R,hF,hR,hS,hn,hN=>by
  have UT:=hn;rw[ahZ]at UT;rw[af];by_cases hle:P.length+2*bs<=n
  ·
   obtain⟨A,B,Q,rfl,hA,hB,aA,aB,hQ⟩:∃ A B Q,R=A++(B++Q)/\A.length=bs/\B.length=bs/\dm lt A/\dm lt B/\Rn lt bs Q:=by
    cases hR with
    |last h1 _=>omega
    | @cons A R1 h1 h2 h3 =>
     rw[ahZ]at UT
     cases h3 with
     |last g1 g2=>exact⟨A,R1,[],by rw[aio],h1,m0,h2,g2,.last (aia _) List.Pairwise.nil⟩
     | @cons B R2 g1 g2 g3=>exact⟨A,B,R2,rfl,h1,g1,h2,g2,g3⟩
   rw[ahZ,ahZ]at UT hN;obtain⟨M,k1,k2,k3⟩:=x6 h hc (n:=n) m0 fuel P A B Q (by unfold fuel;omega) m0 m0 hS aA aB hn;have hM:M.length=2*bs:=by rw[k3.length_eq,ahZ];omega
   have hBo:gl (n:Int) cmp n (bs:Int) (P++(A++(B++Q)),(P.length:Int),((P.length+2*bs:Nat):Int))=some (.next ((P++M)++Q,(((P++M).length:Nat):Int),(((P++M).length+2*bs:Nat):Int))):=by
    unfold gl;dsimp only;rw[hA,hB,show P.length+bs+bs=P.length+2*bs by omega]at k1;rw[ahV (show((P.length+2*bs:Nat):Int)<=(n:Int)by omega),ahT,wrA P.length bs m0,k1,ahQ,show i64.wrap ((2:Int)*(bs:Int))=((2*bs:Nat):Int)by rw[aV m0];omega,wrA _ (2*bs) m0];simp[hM]
   rw[hBo];obtain⟨P',R',b,q1,q2,q3,q4,q5⟩:=ML h hc V3 hb Pe N (P++M) Q (.snoc hF hM k2) hQ (λz hz=>by
    simp only[aih]at hz;obtain(hz|hz)|hz:=hz
    .exact hS z (by simp[hz])
    .have:=k3.mem_iff.1 hz;simp only[aih]at this
     rcases this with hz|hz<;>exact hS z (by simp[hz])
    .exact hS z (by simp[hz])) (by rw[ahZ,ahZ];omega) m0
   refine⟨P',R',b,q1,q2,q3,q4,q5.trans ?_⟩;rw[aig];refine List.Perm.append_left P ?_;rw[<- aig];exact k3.append_right Q
  .have hBo:gl (n:Int) cmp n (bs:Int) (P++R,(P.length:Int),((P.length+2*bs:Nat):Int))=some (.exit (P++R,(P.length:Int),((P.length+2*bs:Nat):Int))):=by
    unfold gl;dsimp only;rw[ahU m0,ahS]
   rw[hBo];exact⟨P,R,_,rfl,hF,hR,m0,.refl _⟩
theorem Gy (h:tV lt S)(hc:kM cmp lt S){n bs:Nat}(V3:n<=100000000)(hb:0<bs)(Pe:bs<n){c:List α}(hR:Rn lt bs c)(hS:∀ z∈c,S z)(hn:c.length=n):∃ c',gD (n:Int) cmp n (c,(bs:Int))=some (.next (c',((2*bs:Nat):Int)))/\Rn lt (2*bs) c'/\c'.Perm c:=by
 obtain⟨P,R,b,q1,q2,q3,q4,q5⟩:=ML h hc V3 hb m0 fuel [] c .nil hR hS hn (by unfold fuel;omega);rw[ahW]at q1 q5;have hl:=q5.length_eq;rw[ahZ,hn]at hl;have e2:i64.wrap ((2:Int)*(bs:Int))=((2*bs:Nat):Int):=by rw[aV m0];omega
 have e3:i64.wrap ((bs:Int)*2)=((2*bs:Nat):Int):=by rw[aV m0];omega
 simp only[aik,aiw]at q1;unfold gD;dsimp only;rw[ahV (show(bs:Int)<(n:Int)by omega),ahT,e2];rw[show((0:Nat):Int)=0 from rfl]at q1;rw[q1,ahQ];unfold oq;dsimp only;rw[wrA P.length bs m0,e3];have ZZ:∀ z∈P++R,S z:=λz hz=>hS z (q5.mem_iff.1 hz)
 by_cases O8:P.length+bs<n
 .rw[ahV (show((P.length+bs:Nat):Int)<(n:Int)by omega),ahT]
  obtain⟨A,B,rfl,hA,hB,aA,aB⟩:∃ A B,R=A++B/\A.length=bs/\0<B.length/\dm lt A/\dm lt B:=by
   cases q3 with
   |last h1 _=>omega
   | @cons A R1 h1 h2 h3 =>
    rw[ahZ]at hl q4;exact⟨A,R1,rfl,h1,m0,h2,h3.asc hb m0⟩
  rw[ahZ]at hl q4;obtain⟨M,k1,k2,k3⟩:=x6 h hc (n:=n) m0 fuel P A B [] (by unfold fuel;omega) m0 hB (by simpa using ZZ) aA aB (by rw[aio,ahZ,ahZ];omega);have hM:M.length=A.length+B.length:=by rw[k3.length_eq,ahZ]
  rw[hA,show P.length+bs+B.length=n by omega,aio]at k1;rw[k1,ahQ,aio];exact⟨P++M,rfl,q2.rn (.last m0 k2),(k3.append_left P).trans q5⟩
 .rw[ahU (show ¬ ((P.length+bs:Nat):Int)<(n:Int)by omega),ahS]
  exact⟨P++R,rfl,q2.rn (.last m0 (q3.asc hb m0)),q5⟩
theorem LD (h:tV lt S)(hc:kM cmp lt S){n:Nat}(V3:n<=100000000):∀ (N bs:Nat) (c:List α),0<bs->bs<=2*n+20->Rn lt bs c->(∀ z∈c,S z)->c.length=n->n-bs<N ->
  ∃ c' b,af (gD (n:Int) cmp n) N (c,(bs:Int))=some (.inl (c',b))/\dm lt c'/\c'.Perm c
 |0,bs,c,_,_,_,_,_,hN=>by omega
 |N+1,bs,c,hb,Pe,hR,hS,hn,hN=>by
  rw[af];by_cases O8:bs<n
  .obtain⟨c',k1,k2,k3⟩:=Gy h hc V3 hb O8 hR hS hn
   rw[k1];obtain⟨c2,b,q1,q2,q3⟩:=LD h hc V3 N (2*bs) c' m0 m0 k2 (λz hz=>hS z (k3.mem_iff.1 hz)) (by rw[k3.length_eq];exact hn) m0;exact⟨c2,b,q1,q2,q3.trans k3⟩
  .have hB:gD (n:Int) cmp n (c,(bs:Int))=some (.exit (c,(bs:Int))):=by
    unfold gD;dsimp only;rw[ahU m0,ahS]
   rw[hB];exact⟨c,_,rfl,hR.asc hb m0,.refl _⟩
theorem I3 (h:tV lt S)(hc:kM cmp lt S){n:Nat}(V3:n<=100000000){l:List α}(hS:∀ z∈l,S z)(hn:l.length=n):∃ r,vo n l (n:Int) cmp=some r/\dm lt r/\r.Perm l:=by
 obtain⟨P,R,b,q1,q2,q3,q4⟩:=MM h hc V3 fuel [] l .nil hS hn (by unfold fuel;omega);rw[ahW]at q1 q4;have hl:=q4.length_eq;rw[ahZ,hn]at hl;have ZZ:∀ z∈P++R,S z:=λz hz=>hS z (q4.mem_iff.1 hz)
 obtain⟨M,k1,k2,k3⟩:=xH h hc (n:=n) m0 (P:=P) (M:=R) (Q:=[]) (λz hz=>ZZ z (by simp[hz])) (by rw[aio,ahZ];omega);rw[show P.length+R.length=n by omega,aio,aio]at k1;have hM:M.length=R.length:=k3.length_eq;obtain⟨c,b2,w1,w2,w3⟩:=LD h hc V3 fuel 20 (P++M) m0 m0 (q2.rn (.last m0 k2)) (λz hz=>by
  obtain hz|hz:=aih.1 hz
  .exact ZZ z (by simp[hz])
  .exact ZZ z (by simp[k3.mem_iff.1 hz])) (by rw[ahZ];omega) (by unfold fuel;omega)
 refine⟨c,?_,w2,(w3.trans (k3.append_left P)).trans q4⟩;unfold vo;simp only[aik,aiw]at q1;rw[show((0:Nat):Int)=0 from rfl,show((20:Nat):Int)=20 from rfl]at q1;rw[show((20:Nat):Int)=20 from rfl]at w1;rw[q1,ahQ];unfold n7;dsimp only;rw[k1,ahQ,w1];rfl
theorem Jr (h:tV lt S)(hc:kM cmp lt S){n:Nat}(V3:n<=100000000){l:List α}(hS:∀ z∈l,S z)(hn:l.length=n):∃ r,uq n l cmp=some r/\dm lt r/\r.Perm l:=by
 obtain⟨r,h1,h2,h3⟩:=I3 h hc V3 hS hn;refine⟨r,?_,h2,h3⟩;unfold uq;rw[h1];rfl
end
def DN (UJ:Bool)(R5:Bool):Option (Int):=bif UJ then some (-1:Int)else
 bif R5 then some (1:Int)else
 some (0:Int)
theorem zh {UJ:Bool}{R5:Bool}{r:Int}(H:DN UJ R5=some r):PTz 95 [.one (.bool UJ),.one (.bool R5)] (.val (.one (.int .i64 r))):=by
 unfold DN at H;refine po_ func95 ntmps95 ?_;obtain⟨PT,H⟩|⟨PT,H⟩:=ae H
 .cases H
  exact ao
 obtain⟨PP,H⟩|⟨PP,H⟩:=ae H
 .cases H
  exact ao
 cases H;exact ao
def vA (O7:Val)(O4:Val):Option (Int):=bif O7.kind≠O4.kind then(DN (decide (O7.kind<O4.kind)) (decide (O4.kind<O7.kind))).bind λPW=>some PW else
 bif O7.int≠O4.int then(DN (decide (O7.int<O4.int)) (decide (O4.int<O7.int))).bind λQQ=>some QQ else
 (DN (Op.bytesLess O7.text.toList O4.text.toList) (!((Op.bytesLess O7.text.toList O4.text.toList)||(O7.text.toList==O4.text.toList)))).bind λPM=>some PM
theorem qa {O7:Val}{O4:Val}{r:Int}(H:vA O7 O4=some r):PTz 72 [.agg (cV O7),.agg (cV O4)] (.val (.one (.int .i64 r))):=by
 unfold vA at H;refine po_ func72 ntmps72 ?_;obtain⟨PT,H⟩|⟨PT,H⟩:=ae H
 .obtain⟨PW,c1,H⟩:=bd_ H
  replace c1:=zh c1
  cases H;exact ao
 obtain⟨PG,H⟩|⟨PG,H⟩:=ae H
 .obtain⟨QQ,c2,H⟩:=bd_ H
  replace c2:=zh c2
  cases H;exact ao
 obtain⟨PM,c3,H⟩:=bd_ H;replace c3:=zh c3
 cases H;exact ao
def hZ (O7:(List Val))(O4:(List Val)):(Int)->Option (Step (Int) (Int)):=λs=>match s with
 |i_1=>bif i_1<(O7.length:Int)then bif i_1<(O4.length:Int)then(al O7 i_1).bind λPK=>(al O4 i_1).bind λQG=>(vA PK QG).bind λQW=>bif QW≠(0:Int)then some (.ret QW)else
 some (.next (i64.wrap (i_1+(1:Int))))else
 some (.exit i_1)else
 some (.exit i_1)
def dR (O7:(List Val))(O4:(List Val)):Sum (Int) (Int)->Option ((Int))
 |.inl i_1=>bif (O7.length:Int)<(O4.length:Int)then some (-1:Int)else
 bif (O4.length:Int)<(O7.length:Int)then some (1:Int)else
 some (0:Int)
 |.inr q=>some q
def xC (O7:(List Val))(O4:(List Val)):Option (Int):=(af (hZ O7 O4) fuel (0:Int)).bind (dR O7 O4)
theorem uD {O7:(List Val)}{O4:(List Val)}{r:Int}(H:xC O7 O4=some r):PTz 45 [.one (.lst (O7.map cV)),.one (.lst (O4.map cV))] (.val (.one (.int .i64 r))):=by
 unfold xC at H;refine po_ func45 ntmps45 ?_;refine aS ?_;refine alM_ (λs:Int=>match s with|i_1=>[(0,.one (.c (.lst (O7.map cV)))),(1,.one (.c (.lst (O4.map cV)))),(5,.one (.c (.int .i64 i_1)))]) (λs=>match s with|i_1=>[]) H (λ_=>aia _)
  (fm_ bg [] rfl aQ trivial) ?_
 rintro i_1 Qr OZ Po;unfold hZ at OZ;dsimp only at OZ ⊢;obtain⟨PP,OZ⟩|⟨PP,OZ⟩:=ae OZ
 .obtain⟨PG,OZ⟩|⟨PG,OZ⟩:=ae OZ
  .obtain⟨PK,QV,i1,QI,OZ⟩:=aw (f:=cV) OZ
   obtain⟨QG,Tu,i2,SR,OZ⟩:=aw (f:=cV) OZ;obtain⟨QW,c3,OZ⟩:=bd_ OZ;replace c3:=qa c3;obtain⟨QX,OZ⟩|⟨QX,OZ⟩:=ae OZ
   .cases OZ
    have O0:dR O7 O4 (.inr QW)=some _:=Po;unfold dR at O0;dsimp only at O0
    cases O0;exact ao
   cases OZ;refine aS ?_;exact⟨_,rfl,fm_ bg [] rfl aQ trivial⟩
  cases OZ;have O0:dR O7 O4 (.inl i_1)=some _:=Po;unfold dR at O0;dsimp only at O0;obtain⟨Qw,O0⟩|⟨Qw,O0⟩:=ae O0
  .cases O0
   exact ao
  obtain⟨Q5,O0⟩|⟨Q5,O0⟩:=ae O0
  .cases O0
   exact ao
  cases O0;exact ao
 cases OZ;have O0:dR O7 O4 (.inl i_1)=some _:=Po;unfold dR at O0;dsimp only at O0;obtain⟨Qw,O0⟩|⟨Qw,O0⟩:=ae O0
 .cases O0
  exact ao
 obtain⟨Q5,O0⟩|⟨Q5,O0⟩:=ae O0
 .cases O0
  exact ao
 cases O0;exact ao
structure xM {α:Type}(c:α->α->Int):Prop where
 refl:∀ a,c a a=0
 zero:∀ a b,c a b=0->a=b
 anti:∀ a b,c a b<0↔0<c b a
 trans:∀ a b d,c a b<0->c b d<0->c a d<0
theorem tCi_:xM gq:=by
 refine⟨λa=>by simp[gq],λa b h=>?_,λa b=>?_,λa b d h1 h2=>?_⟩
 .unfold gq at h;split at h
  .omega
  .split at h<;>omega
 .unfold gq;split<;>split<;>(try split)<;>omega
 .unfold gq at *
  split at h1
  .split at h2
   .rw[if_pos m0];omega
   .split at h2<;>omega
  .split at h1<;>omega
def lA {α:Type}(c:α->α->Int):List α->List α->Int
 |[],[]=>0
 |[],_::_ => -1
 |_::_,[]=>1
 |a::xs,b::ys=>if c a b≠0 then c a b else lA c xs ys
theorem Iz {α:Type}{c:α->α->Int}(h:xM c):xM (lA c):=by
 refine⟨?_,?_,?_,?_⟩
 .intro a
  induction a with
  |nil=>rfl
  |cons x a ih=>simp[lA,h.refl x,ih]
 .intro a
  induction a with
  |nil=>intro b hb;cases b with
   |nil=>rfl
   |cons _ _=>simp[lA]at hb
  |cons x a ih =>
   intro b hb
   cases b with
   |nil=>simp[lA]at hb
   |cons y b =>
    unfold lA at hb;split at hb
    .rename_i h0;exact absurd hb h0
    .rename_i h0
     have:=h.zero x y (by simpa using h0);subst this;rw[ih b hb]
 .intro a
  induction a with
  |nil=>intro b;cases b with
   |nil=>simp[lA]
   |cons _ _=>simp[lA]
  |cons x a ih =>
   intro b
   cases b with
   |nil=>simp[lA]
   |cons y b =>
    unfold lA;by_cases h0:c x y=0
    .have:=h.zero x y h0
     subst this;simp only[h.refl,ne_eq,not_true_eq_false,if_false];exact ih b
    .have h1:c y x≠0:=λe=>h0 (by rw[h.zero y x e];exact h.refl x)
     rw[if_pos h0,if_pos h1];exact h.anti x y
 .intro a
  induction a with
  |nil =>
   intro b d h1 h2
   cases b with
   |nil=>simp[lA]at h1
   |cons y b=>cases d with
    |nil=>simp[lA]at h2
    |cons _ _=>simp[lA]
  |cons x a ih =>
   intro b d h1 h2
   cases b with
   |nil=>simp[lA]at h1
   |cons y b =>
    cases d with
    |nil=>simp[lA]at h2
    |cons z d =>
     unfold lA at h1 h2 ⊢;by_cases e1:c x y=0
     .have:=h.zero x y e1
      subst this;rw[if_neg (by simpa using e1)]at h1;by_cases e2:c x z=0
      .rw[if_neg (by simpa using e2)]at h2 ⊢
       exact ih b d h1 h2
      .rw[if_pos e2]at h2 ⊢
       exact h2
     .rw[if_pos e1]at h1
      by_cases e2:c y z=0
      .have:=h.zero y z e2
       subst this;rw[if_pos e1];exact h1
      .rw[if_pos e2]at h2
       have:=h.trans x y z h1 h2;rw[if_pos m0];exact this
theorem mK:∀ a b:List Val,aX a b=lA jl a b
 |[],[]=>rfl
 |[],_::_=>rfl
 |_::_,[]=>rfl
 |a::xs,b::ys=>by rw[aX,lA,mK xs ys]
def xO (x y:UInt8):Int:=if x<y then -1 else if y<x then 1 else 0
theorem MV:xM xO:=by
 have key:∀ x y:UInt8,xO x y=gq (x.toNat:Int) (y.toNat:Int):=by
  intro x y;unfold xO gq;simp only[UInt8.lt_iff_toNat_lt,Int.ofNat_lt]
 refine⟨λa=>by rw[key];exact tCi_.refl _,λa b h=>?_,λa b=>by rw[key,key];exact tCi_.anti _ _,λa b d h1 h2=>by rw[key]at *;exact tCi_.trans _ _ _ h1 h2⟩;rw[key]at h;have:=tCi_.zero _ _ h;exact UInt8.toNat_inj.1 m0
theorem wU:∀ a b:List UInt8,Lib.compareBytes a b=lA xO a b
 |[],[]=>rfl
 |[],_::_=>rfl
 |_::_,[]=>rfl
 |x::a,y::b=>by
  have e:lA xO (x::a) (y::b)=if xO x y≠0 then xO x y else lA xO a b:=rfl
  rw[e,<- wU a b];have e2:Lib.compareBytes (x::a) (y::b)=if x<y then -1 else if y<x then 1 else Lib.compareBytes a b:=by rw[Lib.compareBytes]
  rw[e2];by_cases h1:x<y
  .simp[h1,xO]
  .by_cases h2:y<x
   .simp[h1,h2,xO]
   .simp[h1,h2,xO]
theorem rb:xM pd:=by
 have key:∀ a b:ByteArray,pd a b=lA xO a.data.toList b.data.toList:=by
  intro a b;unfold pd;rw[Lib.cmp_eq,wU]
 have t:=Iz MV;refine⟨λa=>by rw[key];exact t.refl _,λa b h=>?_,λa b=>by rw[key,key];exact t.anti _ _,λa b d h1 h2=>by rw[key]at *;exact t.trans _ _ _ h1 h2⟩;rw[key]at h;have:=t.zero _ _ h;obtain⟨⟨a⟩⟩:=a;obtain⟨⟨b⟩⟩:=b;simp at this;rw[this]
theorem On:xM jl:=by
 refine⟨?_,?_,?_,?_⟩
 .intro a;simp[jl,tCi_.refl,rb.refl]
 .intro a b h
  obtain⟨k,n,t⟩:=a;obtain⟨k',n',t'⟩:=b;unfold jl at h;dsimp only at h;split at h
  .rename_i e;exact absurd h e
  .rename_i e1
   split at h
   .rename_i e;exact absurd h e
   .rename_i e2
    have k1:=tCi_.zero _ _ (show gq k k'=0 by simpa using e1);have k2:=tCi_.zero _ _ (show gq n n'=0 by simpa using e2);have k3:=rb.zero _ _ h;subst k1 k2 k3;rfl
 .intro a b
  unfold jl;by_cases e1:gq a.kind b.kind=0
  .have k:=tCi_.zero _ _ e1
   rw[k];simp only[tCi_.refl,ne_eq,not_true_eq_false,if_false];by_cases e2:gq a.int b.int=0
   .have k2:=tCi_.zero _ _ e2
    rw[k2];simp only[tCi_.refl,ne_eq,not_true_eq_false,if_false];exact rb.anti _ _
   .have ZV:gq b.int a.int≠0:=λe=>e2 (by rw[tCi_.zero _ _ e];exact tCi_.refl _)
    rw[if_pos e2,if_pos ZV];exact tCi_.anti _ _
  .have e1':gq b.kind a.kind≠0:=λe=>e1 (by rw[tCi_.zero _ _ e];exact tCi_.refl _)
   rw[if_pos e1,if_pos e1'];exact tCi_.anti _ _
 .intro a b d h1 h2
  unfold jl at *;by_cases e1:gq a.kind b.kind=0
  .have k:=tCi_.zero _ _ e1
   rw[k]at h1 ⊢;simp only[tCi_.refl,ne_eq,not_true_eq_false,if_false]at h1;by_cases f1:gq b.kind d.kind=0
   .rw[if_neg (by simpa using f1)]at h2 ⊢
    by_cases e2:gq a.int b.int=0
    .have k2:=tCi_.zero _ _ e2
     rw[k2]at h1 ⊢;simp only[tCi_.refl,ne_eq,not_true_eq_false,if_false]at h1;by_cases f2:gq b.int d.int=0
     .rw[if_neg (by simpa using f2)]at h2 ⊢
      exact rb.trans _ _ _ h1 h2
     .rw[if_pos f2]at h2 ⊢;exact h2
    .rw[if_pos e2]at h1
     by_cases f2:gq b.int d.int=0
     .have k2:=tCi_.zero _ _ f2
      rw[<- k2,if_pos e2];exact h1
     .rw[if_pos f2]at h2
      have:=tCi_.trans _ _ _ h1 h2;rw[if_pos m0];exact this
   .rw[if_pos f1]at h2 ⊢;exact h2
  .rw[if_pos e1]at h1
   by_cases f1:gq b.kind d.kind=0
   .have k:=tCi_.zero _ _ f1
    rw[<- k,if_pos e1];exact h1
   .rw[if_pos f1]at h2
    have:=tCi_.trans _ _ _ h1 h2;rw[if_pos m0];exact this
theorem tCr_:xM aX:=by
 have t:=Iz On;exact⟨λa=>by rw[mK];exact t.refl _,λa b h=>t.zero _ _ (by rw[<- mK];exact h),λa b=>by rw[mK,mK];exact t.anti _ _,λa b d h1 h2=>by rw[mK]at *;exact t.trans _ _ _ h1 h2⟩
section
variable {α:Type} {c:α->α->Int}
def Asc (c:α->α->Int)(l:List α):Prop:=l.Pairwise λa b=>c a b<=0
theorem xM.le_trans (h:xM c){a b d:α}(h1:c a b<=0)(h2:c b d<=0):c a d<=0:=by
 by_cases e1:c a b=0
 .rw[h.zero a b e1];exact h2
 .by_cases e2:c b d=0
  .rw[<- h.zero b d e2];exact h1
  .have:=h.trans a b d m0 m0;omega
theorem xM.total (h:xM c)(a b:α):c a b<=0\/c b a<=0:=by
 by_cases e:c a b<=0
 .exact .inl e
 .have:=(h.anti b a).2 m0;exact .inr m0
theorem k9 (h:xM c):∀ {l m:List α},Asc c l->Asc c m->l.Perm m->l=m
 |[],m,_,_,hp=>by rw[List.Perm.nil_eq hp]
 |x::l,[],_,_,hp=>by have:=hp.length_eq;simp at this
 |x::l,y::m,hl,hm,hp=>by
  have hx:x∈y::m:=hp.mem_iff.1 (List.mem_cons_self ..);have hy:y∈x::l:=hp.mem_iff.2 (List.mem_cons_self ..);rw[Asc,aiH]at hl hm;have e:x=y:=by
   obtain e|hx:=ah8.1 hx
   .exact e
   .obtain e|hy:=ah8.1 hy
    .exact e.symm
    .have h1:=hm.1 x hx
     have h2:=hl.1 y hy;by_cases e0:c x y=0
     .exact h.zero _ _ e0
     .have:=(h.anti x y).1 m0;omega
  subst e;rw[k9 h hl.2 hm.2 (List.Perm.cons_inv hp)]
end
theorem G5 (x y:Int):DJ x y=some (gq x y):=by
 unfold DJ zP gq;by_cases h1:x<y
 .simp[h1]
 .by_cases h2:y<x
  .simp[h1,h2]
  .simp[h1,h2]
def orS (_:Unit)(x:Int):Option (Sum Unit Int):=if x≠0 then some (.inr x)else some (.inl ())
theorem ahb (a b c:Int):gOr [a,b,c]=some (if a≠0 then a else if b≠0 then b else c):=by
 unfold gOr;rw[bP (l:=[a,b,c]) (mk:=λ(_:Unit) i=>i) (f:=orS) ?_ ?_ (by unfold fuel;simp) ()]
 .unfold orS
  by_cases h1:a=0
  .by_cases h2:b=0
   .by_cases h3:c=0
    .simp[cb,zl,oJ,h1,h2,h3]
    .simp[cb,zl,oJ,h1,h2,h3]
   .simp[cb,zl,oJ,h1,h2]
  .simp[cb,zl,oJ,h1]
 .intro s i x hx
  have hi:i<3:=(ahR.1 hx).1;unfold F4 orS;dsimp only;rw[aG hx,ahT,gn_ hx];simp only[ahQ];rw[wrapN m0];by_cases h:x=0
  .simp[h,mT]
  .simp[h,mT]
 .intro s
  unfold F4;dsimp only;rw[lF_,ahS]
theorem pN (v w:Val):pU v w=some (jl v w):=by
 unfold pU;rw[G5,G5];simp only[ahQ];rw[ahb];rfl
theorem HH:∀ (b:List Val),aX [] b=if b=[]then 0 else -1
 |[]=>rfl
 |_::_=>rfl
theorem Dh {a b:List Val}(ha:a.length<=4000000000000)(hb:b.length<=4000000000000):∀ (n i:Nat),i<=a.length->i<=b.length->a.length-i<n->(af (iJ a b λx0 x1=>pU x0 x1) n (i:Int)).bind (dO a b)=some (aX (a.drop i) (b.drop i))
 |0,_,_,_,h=>by omega
 |n+1,i,h1,h2,hn=>by
  rw[af];by_cases O8:i<a.length
  .obtain⟨x,hx⟩:=gol_ O8
   have ex:=(ahR.1 hx).2;have eb:iJ a b (λx0 x1=>pU x0 x1) (i:Int)=bif (b.length:Int)<=(i:Int)then some (.ret (1:Int))else(al b (i:Int)).bind λQG=>(pU x QG).bind λQW=>bif QW≠(0:Int)then some (.ret QW)else some (.next (i64.wrap ((i:Int)+(1:Int)))):=by
    unfold iJ;dsimp only;rw[aG hx,ahT,gn_ hx];rfl
   rw[eb,ail O8,ex];by_cases Wj:i<b.length
   .obtain⟨y,hy⟩:=gol_ Wj
    have ey:=(ahR.1 hy).2;rw[ail Wj,ey,show decide ((b.length:Int)<=(i:Int))=false from ahU m0,ahS,gn_ hy,aX];simp only[ahQ,pN];by_cases h:jl x y=0
    .simp only[h,ne_eq,not_true_eq_false,decide_false,ahS,if_false]
     rw[wrapN m0];have k:=Dh ha hb n (i+1) m0 m0 m0;simp only[pN]at k;exact k
    .simp[h,dO]
   .have:i=b.length:=m0
    subst this;rw[aiG,show decide ((b.length:Int)<=(b.length:Int))=true from ahV m0,ahT];rfl
  .have:i=a.length:=m0
   subst this;have eb:iJ a b (λx0 x1=>pU x0 x1) (a.length:Int)=some (.exit (a.length:Int)):=by
    unfold iJ;dsimp only;rw[lF_,ahS]
   rw[eb,aiG,HH];show dO a b (.inl (a.length:Int))=_;unfold dO;by_cases h:a.length<b.length
   .rw[show decide ((a.length:Int)<(b.length:Int))=true from ahV m0,ahT,if_neg (by rw[List.drop_eq_nil_iff];omega)]
   .rw[show decide ((a.length:Int)<(b.length:Int))=false from ahU m0,ahS,if_pos (by rw[List.drop_eq_nil_iff];omega)]
theorem aa2 (a b:List Val)(ha:a.length<=4000000000000)(hb:b.length<=4000000000000):z_ a b=some (aX a b):=by
 unfold z_ F_;have:=Dh ha hb fuel 0 (aia _) (aia _) (by unfold fuel;omega);rw[show(((0:Nat):Int))=0 from rfl]at this;rw[this];rfl
theorem bytesLess_eq:∀ a b:List UInt8,Op.bytesLess a b=decide (Lib.compareBytes a b<0)/\(a==b)=decide (Lib.compareBytes a b=0)
 |[],[]=>⟨rfl,rfl⟩
 |[],_::_=>⟨rfl,rfl⟩
 |_::_,[]=>⟨rfl,rfl⟩
 |x::a,y::b=>by
  have e2:Lib.compareBytes (x::a) (y::b)=if x<y then -1 else if y<x then 1 else Lib.compareBytes a b:=by rw[Lib.compareBytes]
  have e3:Op.bytesLess (x::a) (y::b)=(decide (x<y)||(x==y&&Op.bytesLess a b)):=by rw[Op.bytesLess]
  obtain⟨i1,i2⟩:=bytesLess_eq a b;rw[e2,e3,List.cons_beq_cons,i1,i2];by_cases h1:x<y
  .have PE:x≠y:=λe=>by rw[e]at h1;exact absurd h1 (UInt8.lt_irrefl y)
   simp[h1,PE]
  .by_cases h2:y<x
   .have PE:x≠y:=λe=>by rw[e]at h2;exact absurd h2 (UInt8.lt_irrefl y)
    simp[h1,h2,PE]
   .have heq:x=y:=UInt8.le_antisymm (UInt8.not_lt.1 h2) (UInt8.not_lt.1 h1)
    subst heq;simp[h1]
theorem NO (a b:ByteArray):Op.bytesLess a.toList b.toList=decide (pd a b<0):=by
 unfold pd;rw[Lib.cmp_eq,ByteArray.toList_eq,ByteArray.toList_eq];exact(bytesLess_eq _ _).1
theorem adH (a b:ByteArray):(a.toList==b.toList)=decide (pd a b=0):=by
 unfold pd;rw[Lib.cmp_eq,ByteArray.toList_eq,ByteArray.toList_eq];exact(bytesLess_eq _ _).2
theorem kA:∀ a b:List UInt8,Lib.compareBytes a b = -1\/Lib.compareBytes a b=0\/Lib.compareBytes a b=1
 |[],[] => .inr (.inl rfl)
 |[],_::_ => .inl rfl
 |_::_,[] => .inr (.inr rfl)
 |x::a,y::b=>by
  have e2:Lib.compareBytes (x::a) (y::b)=if x<y then -1 else if y<x then 1 else Lib.compareBytes a b:=by rw[Lib.compareBytes]
  rw[e2];split
  .exact .inl rfl
  .split
   .exact .inr (.inr rfl)
   .exact kA a b
theorem uB (v w:Val):vA v w=some (jl v w):=by
 unfold vA jl DN;rw[NO,adH];have hr:pd v.text w.text = -1\/pd v.text w.text=0\/pd v.text w.text=1:=by unfold pd;rw[Lib.cmp_eq];exact kA _ _
 by_cases h1:v.kind=w.kind
 .have e1:gq v.kind w.kind=0:=by rw[h1];exact tCi_.refl _
  by_cases h2:v.int=w.int
  .have e2:gq v.int w.int=0:=by rw[h2];exact tCi_.refl _
   rw[e1,e2];simp only[h1,h2,ne_eq,not_true_eq_false,decide_false,ahS,if_false];rcases hr with h|h|h<;>rw[h]<;>rfl
  .have e2:gq v.int w.int≠0:=λe=>h2 (tCi_.zero _ _ e)
   rw[e1];simp only[h1,h2,e2,ne_eq,not_true_eq_false,not_false_eq_true,sl9,if_false,if_true];unfold gq;by_cases h3:v.int<w.int
   .simp[h3]
   .have:w.int<v.int:=m0
    simp[h3,this]
 .have e1:gq v.kind w.kind≠0:=λe=>h1 (tCi_.zero _ _ e)
  simp only[h1,e1,ne_eq,not_true_eq_false,not_false_eq_true,sl9,if_false,if_true];unfold gq;by_cases h3:v.kind<w.kind
  .simp[h3]
  .have:w.kind<v.kind:=m0
   simp[h3,this]
theorem HO {a b:List Val}(ha:a.length<=4000000000000)(hb:b.length<=4000000000000):∀ (n i:Nat),i<=a.length->i<=b.length->a.length-i<n->(af (hZ a b) n (i:Int)).bind (dR a b)=some (aX (a.drop i) (b.drop i))
 |0,_,_,_,h=>by omega
 |n+1,i,h1,h2,hn=>by
  rw[af];by_cases O8:i<a.length
  .obtain⟨x,hx⟩:=gol_ O8
   have ex:=(ahR.1 hx).2;rw[ail O8,ex];by_cases Wj:i<b.length
   .obtain⟨y,hy⟩:=gol_ Wj
    have ey:=(ahR.1 hy).2;have eb:hZ a b (i:Int)=bif jl x y≠(0:Int)then some (.ret (jl x y))else some (.next (i64.wrap ((i:Int)+(1:Int)))):=by
     unfold hZ;dsimp only;rw[aG hx,ahT,aG hy,ahT,gn_ hx,gn_ hy];simp only[ahQ,uB]
    rw[eb,ail Wj,ey,aX];by_cases h:jl x y=0
    .simp only[h,ne_eq,not_true_eq_false,decide_false,ahS,if_false]
     rw[wrapN m0];exact HO ha hb n (i+1) m0 m0 m0
    .simp[h,dR]
   .have:i=b.length:=m0
    subst this;have eb:hZ a b (b.length:Int)=some (.exit (b.length:Int)):=by
     unfold hZ;dsimp only;rw[aG hx,ahT,lF_,ahS]
    rw[eb,aiG];show dR a b (.inl (b.length:Int))=_;unfold dR;rw[show decide ((a.length:Int)<(b.length:Int))=false from ahU m0,ahS,show decide ((b.length:Int)<(a.length:Int))=true from ahV m0,ahT];rfl
  .have:i=a.length:=m0
   subst this;have eb:hZ a b (a.length:Int)=some (.exit (a.length:Int)):=by
    unfold hZ;dsimp only;rw[lF_,ahS]
   rw[eb,aiG,HH];show dR a b (.inl (a.length:Int))=_;unfold dR;by_cases h:a.length<b.length
   .rw[show decide ((a.length:Int)<(b.length:Int))=true from ahV m0,ahT,if_neg (by rw[List.drop_eq_nil_iff];omega)]
   .rw[show decide ((a.length:Int)<(b.length:Int))=false from ahU m0,ahS,show decide ((b.length:Int)<(a.length:Int))=false from ahU m0,ahS,if_pos (by rw[List.drop_eq_nil_iff];omega)]
theorem ni (a b:List Val)(ha:a.length<=4000000000000)(hb:b.length<=4000000000000):xC a b=some (aX a b):=by
 unfold xC;have:=HO ha hb fuel 0 (aia _) (aia _) (by unfold fuel;omega);rw[show(((0:Nat):Int))=0 from rfl]at this;rw[this];rfl
def yM (B:List (List Val))(x:List Val):Nat->Nat
 |0=>0
 |j+1=>match B[j]? with
  |some y=>if aX x y<0 then yM B x j else j+1
  |none=>j+1
def Hg (B:List (List Val))(x:List Val):List (List Val):=B.take (yM B x B.length)++x::B.drop (yM B x B.length)
def aH (l:List (List Val)):List (List Val):=l.foldl Hg []
theorem DU (B:List (List Val))(x:List Val):∀ j,j<=B.length->yM B x j<=j/\(∀ i y,yM B x j<=i->i<j->B[i]?=some y->aX x y<0)/\(∀ q,yM B x j=q+1 ->∃ y,B[q]?=some y /\ ¬ aX x y<0)
 |0,_=>⟨ah7 _,λi y _ h=>by omega,λq h=>by simp[yM]at h⟩
 |j+1,hj=>by
  obtain⟨y,hy⟩:=gol_ (show j<B.length by omega);have e:yM B x (j+1)=if aX x y<0 then yM B x j else j+1:=by rw[yM,hy]
  rw[e];by_cases h:aX x y<0
  .rw[if_pos h]
   obtain⟨h1,h2,h3⟩:=DU B x j m0;refine⟨m0,λi z hi Wu hz=>?_,h3⟩;by_cases hij':i<j
   .exact h2 i z hi hij' hz
   .have:i=j:=m0
    subst this;rw[hy]at hz;obtain rfl:=aim hz;exact h
  .rw[if_neg h]
   refine⟨ah7 _,λi z hi Wu=>by omega,λq hq=>?_⟩;obtain rfl:j=q:=m0
   exact⟨y,hy,h⟩
theorem N8 (B:List (List Val))(x:List Val):(Hg B x).Perm (x::B):=by
 unfold Hg;refine List.perm_middle.trans ?_;rw[aiz]
theorem aaE {B:List (List Val)}(x:List Val)(h:Asc aX B):Asc aX (Hg B x):=by
 obtain⟨h1,h2,h3⟩:=DU B x B.length (ah7 _);unfold Hg;generalize yM B x B.length=p at h1 h2 h3;have hB:Asc aX (B.take p++B.drop p):=by rw[aiz];exact h
 obtain⟨ht,hd,hc⟩:=List.pairwise_append.1 hB;have hx:∀ b∈B.drop p,aX x b<=0:=by
  intro b hb;obtain⟨i,hi⟩:=List.getElem?_of_mem hb;rw[aiA]at hi;have:=h2 (p+i) b m0 (ahR.1 hi).1 hi;omega
 have hl:∀ a∈B.take p,aX a x<=0:=by
  intro a ha
  cases p with
  |zero=>simp at ha
  |succ q =>
   obtain⟨y,hy,hn⟩:=h3 q rfl;have hyx:aX y x<=0:=by
    have:=tCr_.anti x y;have:=tCr_.anti y x;omega
   have hq:q<B.length:=(ahR.1 hy).1;have ey:=(ahR.1 hy).2;rw[List.take_succ_eq_append_getElem hq,ey]at ha ht;obtain ha|ha:=aih.1 ha
   .exact tCr_.le_trans ((List.pairwise_append.1 ht).2.2 a ha y m5) hyx
   .obtain rfl:a=y:=by simpa using ha
    exact hyx
 refine List.pairwise_append.2 ⟨ht,aiH.2 ⟨hx,hd⟩,λa ha b hb=>?_⟩;obtain rfl|hb:=ah8.1 hb
 .exact hl a ha
 .exact hc a ha b hb
theorem wk:∀ (l B:List (List Val)),Asc aX B->Asc aX (l.foldl Hg B)/\(l.foldl Hg B).Perm (l++B)
 |[],B,h=>⟨h,List.Perm.refl _⟩
 |x::l,B,h=>by
  obtain⟨h1,h2⟩:=wk l (Hg B x) (aaE x h);refine⟨h1,h2.trans ?_⟩;refine((N8 B x).append_left l).trans ?_;exact List.perm_middle
theorem cZ (l:List (List Val)):Asc aX (aH l):=(wk l [] List.Pairwise.nil).1
theorem aP (l:List (List Val)):(aH l).Perm l:=by
 have:=(wk l [] List.Pairwise.nil).2;rwa[aio]at this
theorem vw {l r:List (List Val)}(h1:Asc aX r)(h2:r.Perm l):aH l=r:=k9 tCr_ (cZ l) h1 ((aP l).trans h2.symm)
def push {α β ρ:Type}(g:α->β)(N:Nat)(s:List β)(x:α):Option (Sum (List β) ρ):=bif decide (s.length+1<=N)then some (.inl (s++[g x]))else none
theorem ra {α β ρ:Type}(g:α->β)(N:Nat):∀ (l:List α) (s:List β),s.length+l.length<=N->cb (ρ:=ρ) (push g N) s l=some (.inl (s++l.map g))
 |[],s,_=>by simp[cb]
 |x::l,s,h=>by
  have h':s.length+(l.length+1)<=N:=by simpa using h
  have e:push (ρ:=ρ) g N s x=some (.inl (s++[g x])):=by unfold push;rw[show decide (s.length+1<=N)=true from ahV m0];rfl
  rw[cb,e];have:=ra (ρ:=ρ) g N l (s++[g x]) m8;simpa using this
theorem FQ {α σ ρ:Type}{f:σ->α->Option (Sum σ ρ)}:∀ (l:List α) (s:σ),(∀ s x,x∈l ->∃ r,f s x=some r) ->∃ r,cb f s l=some r
 |[],s,_=>⟨_,rfl⟩
 |x::l,s,h=>by
  obtain⟨r,hr⟩:=h s x (List.mem_cons_self ..);rw[cb,hr]
  cases r with
  |inl s'=>exact FQ l s' λs y hy=>h s y (aid _ hy)
  |inr r=>exact⟨_,rfl⟩
abbrev cc {α:Type}(PX:α->List AC)(k v:Nat)(X:List α):Ob := .row v ((X.map PX).map (List.map SV.c)) k
theorem IE {α:Type}(PX:α->List AC)(k v:Nat)(X:List α)(σ:List Nat):(cc PX k v X).ren σ=cc PX k v X:=by
 show Ob.row v (((X.map PX).map (List.map SV.c)).map (List.map (SV.ren σ))) k=_;rw[List.map_map];congr 1;refine List.map_congr_left λe _=>?_
 show(e.map SV.c).map (SV.ren σ)=e.map SV.c;rw[List.map_map];rfl
theorem aM {α:Type}(n:Nat)(PX:α->List AC)(k v:Nat)(X:List α):(cc PX k v X).below n:=iZ n v k PX X
theorem rfX {α:Type}{PX:α->List AC}{k v:Nat}{X:List α}{L:List Ob}{args:List AV}(h0:L[0]?=some (cc PX k v X))(hx:∀ y∈args,y.below 1):ig [0] [cc PX k v X] args L:=by
 refine⟨rfl,m5,λi y hy=>?_,bU ⟨aM _ _ _ _ _,t7⟩,hx⟩
 match i,hy with
 |0,hy=>simp only[List.getElem?_cons_zero,Option.some.injEq]at hy;subst hy;rw[IE];exact h0
 |i+1,hy=>simp at hy
theorem jX {α:Type}{PX:α->List AC}{k v:Nat}{X:List α}{L L':List Ob}(h:L.set 0 (cc PX k v X)=L'):joinL [0] L [cc PX k v X]=L':=by
 subst h;simp only[joinL,join,iI,dx,tB,ah2,ah6,IE];simp
section
variable {P:Program} {ti:TI} {N:Nat} {ds:List (Option Tmp)} {K:Tm->List Ob->Prop} {rest:List Oper} {o:Oper} {T:Tm} {L:List Ob}
theorem r_ {α:Type}{PX:α->List AC}{X Y:List α}{g:FuncId}{QB args:List AV}{v k d:Nat}(hd:o.dst=some d)(hN:Nat.blt d N=true)(hg:fN ds T o.guard=some true)(hp:dp ti (look T) o.op=some (g,QB))(hL:L[0]?=some (cc PX k v X))(h:aK P ti N ds K rest ((d,.tup [])::T) (L.set 0 (cc PX k v Y)))
  (hc:Run P g [cc PX k v X] args [cc PX k v Y] (.tup []):=by assumption) (ha:QB=args.map (AV.ren [0]):=by rfl) (hb:∀ y∈args,y.below 1:=by refine iO ?_;repeat' (first|refine⟨?_,?_⟩|exact t7|exact lt_)):aK P ti N ds K (o::rest) T L :=
 cl [0] hd hN hg hp hc ha (rfX hL hb) rfl (jX rfl) h
theorem afE {α:Type}{PX:α->List AC}{X:List α}{x:α}{t:TypeId}{p:Operand}{id O9 i k d:Nat}(hd:o.dst=some d)(hN:Nat.blt d N=true){g0:Bool}(hg:fN ds T o.guard=some g0)(ho:o.op = .load t p)(hp:look T p=some (.one (.ep id O9 i 0)))(hL:L[id]?=some (cc PX k O9 X))(ha:ti.agg t=some true)(hn:ti.size t=some k)(hk:∀ x,(PX x).length=k)
  (h:aK P ti N ds K rest ((d,.agg ((PX x).map SV.c))::T) L) (hx:X[i]?=some x:=by assumption) (R6:g0=true:=by first|rfl|exact iP (by first|assumption|exact jo (by assumption))|exact iS (by first|assumption|exact js (by assumption))):aK P ti N ds K (o::rest) T L:=by
 subst R6;have hl:((PX x).map SV.c).length=k:=by rw[ah3,hk]
 refine acj hd hN hg ho hp hL ha hn (e:=(PX x).map SV.c) ?_ (by rw[List.drop_zero,<- hl,List.take_length]) m0 h;rw[aic,aic,hx];rfl
theorem agq {α:Type}{PX:α->List AC}{X:List α}{x:α}{y:AC}{t:TypeId}{p:Operand}{id O9 i k d:Nat}(hd:o.dst=some d)(hN:Nat.blt d N=true){g0:Bool}(hg:fN ds T o.guard=some g0)(ho:o.op = .load t p)(hp:look T p=some (.one (.ep id O9 i 0)))(hL:L[id]?=some (cc PX k O9 X))(ha:ti.agg t=some false)
  (h:aK P ti N ds K rest ((d,.one (.c y))::T) L) (hx:X[i]?=some x:=by assumption) (hy:PX x=[y]:=by rfl) (R6:g0=true:=by first|rfl|exact iP (by first|assumption|exact jo (by assumption))|exact iS (by first|assumption|exact js (by assumption))):aK P ti N ds K (o::rest) T L:=by
 subst R6;refine pO hd hN hg ho hp hL ha (e:=(PX x).map SV.c) (x := .c y) ?_ (by rw[hy];rfl) h;rw[aic,aic,hx];rfl
end
theorem jJ {α β:Type}{X:List α}{i:Int}{k:α->Option β}{r:β}(H:(al X i).bind k=some r):∃ x,X[0+i.toNat]?=some x/\k x=some r:=by
 obtain⟨x,h,K⟩:=bd_ H;obtain⟨h0,h1⟩:=kw h;exact⟨x,by rw[aiw];exact h1,K⟩
theorem sg {p q:Prop}(k:q)(h:Bx q->p:=by
 intro hq
 repeat' (first
  |refine r_ rfl rfl rfl rfl rfl ?_|refine afE rfl rfl rfl rfl rfl rfl rfl rfl (λ_=>rfl) ?_|refine agq rfl rfl rfl rfl rfl rfl rfl ?_|refine x8 rfl rfl rfl rfl rfl m0 rfl (λ_=>rfl) rfl ?_|refine p_ rfl rfl rfl rfl rfl ?_|refine st_nil ?_|refine x_ rfl rfl rfl rfl rfl rfl rfl rfl ?_|refine l_ rfl rfl rfl rfl ?_|refine s_ rfl rfl rfl ?_|refine t_ rfl rfl rfl rfl ?_|refine k_ rfl rfl rfl ?_|refine k0_ rfl rfl ?_|refine c_ rfl rfl rfl rfl ?_|refine pick_t rfl rfl rfl rfl rfl rfl rfl ?_|refine pick_f rfl rfl rfl rfl rfl rfl rfl ?_|refine aw_seq ?_|refine aw_region aj _ rfl ?_|refine aw_drawn2 bw _ rfl mixed (by decide +kernel) ?_|refine aw_condT rfl ?_|refine aw_condF rfl ?_|refine aw_block ?_|refine aw_exit ?_|refine aw_ret ?_|refine aw_skip ?_|rw[ah3]|rw[mn_norm]|rw[mx_norm])
 exact hq.out):p:=h ⟨k⟩
theorem gX {p:Prop}(h:p:=by
 repeat' (first
  |refine r_ rfl rfl rfl rfl rfl ?_|refine afE rfl rfl rfl rfl rfl rfl rfl rfl (λ_=>rfl) ?_|refine agq rfl rfl rfl rfl rfl rfl rfl ?_|refine x8 rfl rfl rfl rfl rfl m0 rfl (λ_=>rfl) rfl ?_|refine p_ rfl rfl rfl rfl rfl ?_|refine st_nil ?_|refine x_ rfl rfl rfl rfl rfl rfl rfl rfl ?_|refine l_ rfl rfl rfl rfl ?_|refine s_ rfl rfl rfl ?_|refine t_ rfl rfl rfl rfl ?_|refine k_ rfl rfl rfl ?_|refine k0_ rfl rfl ?_|refine c_ rfl rfl rfl rfl ?_|refine pick_t rfl rfl rfl rfl rfl rfl rfl ?_|refine pick_f rfl rfl rfl rfl rfl rfl rfl ?_|refine aw_seq ?_|refine aw_region aj _ rfl ?_|refine aw_drawn2 bw _ rfl mixed (by decide +kernel) ?_|refine aw_condT rfl ?_|refine aw_condF rfl ?_|refine aw_block ?_|refine aw_exit ?_|refine aw_ret ?_|refine aw_skip ?_|rw[ah3]|rw[mn_norm]|rw[mx_norm])
 first
  |exact⟨.inl rfl,⟨.inr ⟨.tup [],⟨t7,rfl⟩,rfl⟩,⟨[],rfl⟩,m5,bU ⟨aM _ _ _ _ _,t7⟩,t7⟩⟩
  |exact⟨.inr rfl,⟨.inr ⟨.tup [],⟨t7,rfl⟩,rfl⟩,⟨[],rfl⟩,m5,bU ⟨aM _ _ _ _ _,t7⟩,t7⟩⟩):p:=h
theorem k6 {n:Nat}  {zd:(List (List Val))}{O7:Int}{O4:Int}{QC:Int}{a_cmp:(List Val)->(List Val)->Option (Int)}{v:Nat}{r:List (List Val)}{zr:FuncId}{zc:List AC}(zj:∀ (y0:(List Val)) (y1:(List Val)) (r:Int),a_cmp y0 y1=some r->PTz zr ([.one (.lst (y0.map cV)),.one (.lst (y1.map cV))]++zc.map .one) (.val (.one (.int .i64 r))))(H:gw n zd O7 O4 QC a_cmp=some r):RTz 281 [cc (λx=>[AC.lst (x.map cV)]) 1 v zd] [.one (.sl 0 v 0 n),.one (.c (.int .i64 O7)),.one (.c (.int .i64 O4)),.one (.c (.int .i64 QC)),.one (.c (.fn zr zc))] [cc (λx=>[AC.lst (x.map cV)]) 1 v r] (.tup []):=by
 unfold gw at H;refine bB aj func281 rfl rfl ntmps281 m5 ?_;simp only[gp];refine sg ?_;refine alM_ (λs:(List (List Val))×Int=>match s with|(Qx,i_2)=>[(0,.one (.sl 0 v 0 n)),(1,.one (.c (.int .i64 O7))),(2,.one (.c (.int .i64 O4))),(3,.one (.c (.int .i64 QC))),(10,.one (.c (.int .i64 i_2)))]) (λs=>match s with|(Qx,i_2)=>[cc (λx=>[AC.lst (x.map cV)]) 1 v Qx]) H (λ_=>ah7 _)
  (fm_ bg [] rfl aQ ⟨aM _ _ _ _ _,t7⟩) ?_
 rintro⟨Qx,i_2⟩ Qr OZ Po;unfold dG at OZ;dsimp only at OZ ⊢;obtain⟨PG,OZ⟩|⟨PG,OZ⟩:=ae OZ
 .obtain⟨g1,OZ⟩:=aq OZ
  obtain⟨g2,OZ⟩:=aq OZ;obtain⟨PK,i3,OZ⟩:=jJ OZ;obtain⟨g4,OZ⟩:=aq OZ;obtain⟨g5,OZ⟩:=aq OZ;obtain⟨QG,i6,OZ⟩:=jJ OZ;obtain⟨g7,OZ⟩:=aq OZ;obtain⟨g8,OZ⟩:=aq OZ;obtain⟨g9,OZ⟩:=aq OZ;obtain⟨g10,OZ⟩:=aq OZ;obtain⟨g11,OZ⟩:=aq OZ;obtain⟨g12,OZ⟩:=aq OZ
  cases OZ;refine sg ?_;exact⟨_,rfl,fm_ bg [] rfl aQ ⟨aM _ _ _ _ _,t7⟩⟩
 cases OZ;have O0:mi (.inl (Qx,i_2))=some _:=Po;unfold mi at O0;dsimp only at O0
 cases O0;exact gX
theorem xq {n:Nat}  {zd:(List (List Val))}{O7:Int}{RD:Int}{O4:Int}{a_cmp:(List Val)->(List Val)->Option (Int)}{v:Nat}{r:List (List Val)}{zr:FuncId}{zc:List AC}(zj:∀ (y0:(List Val)) (y1:(List Val)) (r:Int),a_cmp y0 y1=some r->PTz zr ([.one (.lst (y0.map cV)),.one (.lst (y1.map cV))]++zc.map .one) (.val (.one (.int .i64 r))))(H:lK n zd O7 RD O4 a_cmp=some r):RTz 245 [cc (λx=>[AC.lst (x.map cV)]) 1 v zd] [.one (.sl 0 v 0 n),.one (.c (.int .i64 O7)),.one (.c (.int .i64 RD)),.one (.c (.int .i64 O4)),.one (.c (.fn zr zc))] [cc (λx=>[AC.lst (x.map cV)]) 1 v r] (.tup []):=by
 unfold lK at H;refine bB aj func245 rfl rfl ntmps245 m5 ?_;simp only[gp];refine sg ?_;refine alM_ (λs:(List (List Val))×Int×Int=>match s with|(Qx,i_2,XE)=>[(0,.one (.sl 0 v 0 n)),(2,.one (.c (.int .i64 RD))),(4,.one (.c (.fn zr zc))),(10,.one (.c (.int .i64 i_2))),(11,.one (.c (.int .i64 XE)))]) (λs=>match s with|(Qx,i_2,XE)=>[cc (λx=>[AC.lst (x.map cV)]) 1 v Qx]) H (λ_=>ah7 _)
  (fm_ bg [] rfl aQ ⟨aM _ _ _ _ _,t7⟩) ?_
 rintro⟨Qx,i_2,XE⟩ Qr OZ Po;unfold en at OZ;dsimp only at OZ ⊢;obtain⟨P1,OZ⟩|⟨P1,OZ⟩:=ae OZ
 .obtain⟨Qu,OZ⟩|⟨Qu,OZ⟩:=ae OZ
  .obtain⟨c_6,c1,OZ⟩:=bd_ OZ
   replace c1:=k6 (v:=v) (zc:=zc) zj c1
   cases OZ;refine sg ?_;exact⟨_,rfl,fm_ bg [] rfl aQ ⟨aM _ _ _ _ _,t7⟩⟩
  obtain⟨Z1,c2,OZ⟩:=bd_ OZ;replace c2:=k6 (v:=v) (zc:=zc) zj c2
  cases OZ;refine sg ?_;exact⟨_,rfl,fm_ bg [] rfl aQ ⟨aM _ _ _ _ _,t7⟩⟩
 cases OZ;have O0:nP RD a_cmp n (.inl (Qx,i_2,XE))=some _:=Po;unfold nP at O0;dsimp only at O0;obtain⟨c_8,c3,O0⟩:=bd_ O0;replace c3:=k6 (v:=v) (zc:=zc) zj c3
 cases O0;exact gX
theorem uA {n:Nat}  {zd:(List (List Val))}{O7:Int}{O4:Int}{a_cmp:(List Val)->(List Val)->Option (Int)}{v:Nat}{r:List (List Val)}{zr:FuncId}{zc:List AC}(zj:∀ (y0:(List Val)) (y1:(List Val)) (r:Int),a_cmp y0 y1=some r->PTz zr ([.one (.lst (y0.map cV)),.one (.lst (y1.map cV))]++zc.map .one) (.val (.one (.int .i64 r))))(H:m3 n zd O7 O4 a_cmp=some r):RTz 201 [cc (λx=>[AC.lst (x.map cV)]) 1 v zd] [.one (.sl 0 v 0 n),.one (.c (.int .i64 O7)),.one (.c (.int .i64 O4)),.one (.c (.fn zr zc))] [cc (λx=>[AC.lst (x.map cV)]) 1 v r] (.tup []):=by
 unfold m3 at H;refine bB aj func201 rfl rfl ntmps201 m5 ?_;simp only[gp];refine sg ?_;refine alM_ (λs:(List (List Val))×Int=>match s with|(Qx,i_2)=>[(0,.one (.sl 0 v 0 n)),(1,.one (.c (.int .i64 O7))),(2,.one (.c (.int .i64 O4))),(3,.one (.c (.fn zr zc))),(8,.one (.c (.int .i64 i_2)))]) (λs=>match s with|(Qx,i_2)=>[cc (λx=>[AC.lst (x.map cV)]) 1 v Qx]) H (λ_=>ah7 _)
  (fm_ bg [] rfl aQ ⟨aM _ _ _ _ _,t7⟩) ?_
 rintro⟨Qx,i_2⟩ st3 PZ hk3;unfold dl at PZ;dsimp only at PZ ⊢;obtain⟨PG,PZ⟩|⟨PG,PZ⟩:=ae PZ
 .refine sg ?_
  refine alM_ (λs:(List (List Val))×Int=>match s with|(SX,Z2)=>[(0,.one (.sl 0 v 0 n)),(1,.one (.c (.int .i64 O7))),(2,.one (.c (.int .i64 O4))),(3,.one (.c (.fn zr zc))),(8,.one (.c (.int .i64 i_2))),(9,.one (.c (.int .i64 Z2)))]) (λs=>match s with|(SX,Z2)=>[cc (λx=>[AC.lst (x.map cV)]) 1 v SX]) PZ (λ_=>ah7 _)
   (fm_ bg [] rfl aQ ⟨aM _ _ _ _ _,t7⟩) ?_
  rintro⟨SX,Z2⟩ Zk Py VD;unfold dh at Py;dsimp only at Py ⊢;obtain⟨Qb,Py⟩|⟨Qb,Py⟩:=ae Py
  .obtain⟨g1,Py⟩:=aq Py
   obtain⟨g2,Py⟩:=aq Py;obtain⟨Qs,i3,Py⟩:=jJ Py;obtain⟨g4,Py⟩:=aq Py;obtain⟨g5,Py⟩:=aq Py;obtain⟨Uu,i6,Py⟩:=jJ Py;obtain⟨Q4,c7,Py⟩:=bd_ Py;replace c7:=zj _ _ _ c7;obtain⟨P6,Py⟩|⟨P6,Py⟩:=ae Py
   .obtain⟨g8,Py⟩:=aq Py
    obtain⟨g9,Py⟩:=aq Py;obtain⟨g10,Py⟩:=aq Py;obtain⟨g11,Py⟩:=aq Py;obtain⟨g12,Py⟩:=aq Py;obtain⟨g13,Py⟩:=aq Py;obtain⟨g14,Py⟩:=aq Py;obtain⟨g15,Py⟩:=aq Py;obtain⟨g16,Py⟩:=aq Py;obtain⟨g17,Py⟩:=aq Py
    cases Py;refine sg ?_;exact⟨_,rfl,fm_ bg [] rfl aQ ⟨aM _ _ _ _ _,t7⟩⟩
   cases Py;have Qc:gH i_2 (.inl (SX,Z2))=some _:=VD;unfold gH at Qc;dsimp only at Qc
   cases Qc;refine sg ?_;exact⟨_,rfl,fm_ bg [] rfl aQ ⟨aM _ _ _ _ _,t7⟩⟩
  cases Py;have Qc:gH i_2 (.inl (SX,Z2))=some _:=VD;unfold gH at Qc;dsimp only at Qc
  cases Qc;refine sg ?_;exact⟨_,rfl,fm_ bg [] rfl aQ ⟨aM _ _ _ _ _,t7⟩⟩
 cases PZ;have Rh:pD (.inl (Qx,i_2))=some _:=hk3;unfold pD at Rh;dsimp only at Rh
 cases Rh;exact gX
theorem Jv {rec:Nat->List (List Val)->Int->Int->Int->((List Val)->(List Val)->Option Int)->Option (List (List Val))}{n:Nat}  (Pq:∀ {n:Nat} {X:List (List Val)} {a m b:Int} {cmp:(List Val)->(List Val)->Option Int} {v:Nat} {zr:FuncId} {zc:List AC} (zj:∀ (y0:(List Val)) (y1:(List Val)) (r:Int),cmp y0 y1=some r->PTz zr ([.one (.lst (y0.map cV)),.one (.lst (y1.map cV))]++zc.map .one) (.val (.one (.int .i64 r)))) {r:List (List Val)},rec n X a m b cmp=some r->RTz 202 [cc (λx=>[AC.lst (x.map cV)]) 1 v X] [.one (.sl 0 v 0 n),.one (.c (.int .i64 a)),.one (.c (.int .i64 m)),.one (.c (.int .i64 b)),.one (.c (.fn zr zc))] [cc (λx=>[AC.lst (x.map cV)]) 1 v r] (.tup [])){zd:(List (List Val))}{O7:Int}{RD:Int}{O4:Int}{a_cmp:(List Val)->(List Val)->Option (Int)}{v:Nat}{r:List (List Val)}{zr:FuncId}{zc:List AC}(zj:∀ (y0:(List Val)) (y1:(List Val)) (r:Int),a_cmp y0 y1=some r->PTz zr ([.one (.lst (y0.map cV)),.one (.lst (y1.map cV))]++zc.map .one) (.val (.one (.int .i64 r))))(Wl:(decide ((i64.wrap (RD-O7))=(1:Int)))=true)(H:oV rec n zd O7 RD O4 a_cmp=some r):RTz 202 [cc (λx=>[AC.lst (x.map cV)]) 1 v zd] [.one (.sl 0 v 0 n),.one (.c (.int .i64 O7)),.one (.c (.int .i64 RD)),.one (.c (.int .i64 O4)),.one (.c (.fn zr zc))] [cc (λx=>[AC.lst (x.map cV)]) 1 v r] (.tup []):=by
 unfold oV at H;refine bB aj func202 rfl rfl ntmps202 m5 ?_;simp only[gp];obtain⟨PT,H⟩|⟨PT,H⟩:=ae H
 .refine sg ?_
  refine alM_ (λs:Int×Int=>match s with|(i_2,XE)=>[(0,.one (.sl 0 v 0 n)),(1,.one (.c (.int .i64 O7))),(4,.one (.c (.fn zr zc))),(10,.one (.c (.int .i64 i_2))),(11,.one (.c (.int .i64 XE)))]) (λs=>match s with|(i_2,XE)=>[cc (λx=>[AC.lst (x.map cV)]) 1 v zd]) H (λ_=>ah7 _)
   (fm_ bg [] rfl aQ ⟨aM _ _ _ _ _,t7⟩) ?_
  rintro⟨i_2,XE⟩ Qr OZ Po;unfold mV at OZ;dsimp only at OZ ⊢;obtain⟨P1,OZ⟩|⟨P1,OZ⟩:=ae OZ
  .obtain⟨g1,OZ⟩:=aq OZ
   obtain⟨g2,OZ⟩:=aq OZ;obtain⟨QG,i3,OZ⟩:=jJ OZ;obtain⟨g4,OZ⟩:=aq OZ;obtain⟨g5,OZ⟩:=aq OZ;obtain⟨Rf,i6,OZ⟩:=jJ OZ;obtain⟨Qi,c7,OZ⟩:=bd_ OZ;replace c7:=zj _ _ _ c7;obtain⟨Qw,OZ⟩|⟨Qw,OZ⟩:=ae OZ
   .cases OZ
    refine sg ?_;exact⟨_,rfl,fm_ bg [] rfl aQ ⟨aM _ _ _ _ _,t7⟩⟩
   cases OZ;refine sg ?_;exact⟨_,rfl,fm_ bg [] rfl aQ ⟨aM _ _ _ _ _,t7⟩⟩
  cases OZ;have O0:qA zd O7 n (.inl (i_2,XE))=some _:=Po;unfold qA at O0;dsimp only at O0;refine sg ?_;refine alM_ (λs:(List (List Val))×Int=>match s with|(c_9,XF)=>[(0,.one (.sl 0 v 0 n)),(10,.one (.c (.int .i64 i_2))),(13,.one (.c (.int .i64 XF)))]) (λs=>match s with|(c_9,XF)=>[cc (λx=>[AC.lst (x.map cV)]) 1 v c_9]) O0 (λ_=>ah7 _)
   (fm_ bg [] rfl aQ ⟨aM _ _ _ _ _,t7⟩) ?_
  rintro⟨c_9,XF⟩ st2 Pe RE;unfold la at Pe;dsimp only at Pe ⊢;obtain⟨Qo,Pe⟩|⟨Qo,Pe⟩:=ae Pe
  .obtain⟨g8,Pe⟩:=aq Pe
   obtain⟨g9,Pe⟩:=aq Pe;obtain⟨R9,Zl,Pe⟩:=jJ Pe;obtain⟨g11,Pe⟩:=aq Pe;obtain⟨g12,Pe⟩:=aq Pe;obtain⟨YL,i13,Pe⟩:=jJ Pe;obtain⟨g14,Pe⟩:=aq Pe;obtain⟨g15,Pe⟩:=aq Pe;obtain⟨g16,Pe⟩:=aq Pe;obtain⟨g17,Pe⟩:=aq Pe;obtain⟨g18,Pe⟩:=aq Pe;obtain⟨g19,Pe⟩:=aq Pe
   cases Pe;refine sg ?_;exact⟨_,rfl,fm_ bg [] rfl aQ ⟨aM _ _ _ _ _,t7⟩⟩
  cases Pe;have Px:yA (.inl (c_9,XF))=some _:=RE;unfold yA at Px;dsimp only at Px
  cases Px;exact gX
 exact nomatch Wl.symm.trans PT
theorem JK {rec:Nat->List (List Val)->Int->Int->Int->((List Val)->(List Val)->Option Int)->Option (List (List Val))}{n:Nat}  (Pq:∀ {n:Nat} {X:List (List Val)} {a m b:Int} {cmp:(List Val)->(List Val)->Option Int} {v:Nat} {zr:FuncId} {zc:List AC} (zj:∀ (y0:(List Val)) (y1:(List Val)) (r:Int),cmp y0 y1=some r->PTz zr ([.one (.lst (y0.map cV)),.one (.lst (y1.map cV))]++zc.map .one) (.val (.one (.int .i64 r)))) {r:List (List Val)},rec n X a m b cmp=some r->RTz 202 [cc (λx=>[AC.lst (x.map cV)]) 1 v X] [.one (.sl 0 v 0 n),.one (.c (.int .i64 a)),.one (.c (.int .i64 m)),.one (.c (.int .i64 b)),.one (.c (.fn zr zc))] [cc (λx=>[AC.lst (x.map cV)]) 1 v r] (.tup [])){zd:(List (List Val))}{O7:Int}{RD:Int}{O4:Int}{a_cmp:(List Val)->(List Val)->Option (Int)}{v:Nat}{r:List (List Val)}{zr:FuncId}{zc:List AC}(zj:∀ (y0:(List Val)) (y1:(List Val)) (r:Int),a_cmp y0 y1=some r->PTz zr ([.one (.lst (y0.map cV)),.one (.lst (y1.map cV))]++zc.map .one) (.val (.one (.int .i64 r))))(Wl:(decide ((i64.wrap (RD-O7))=(1:Int)))=false)(VN:(decide ((i64.wrap (O4-RD))=(1:Int)))=true)(H:oV rec n zd O7 RD O4 a_cmp=some r):RTz 202 [cc (λx=>[AC.lst (x.map cV)]) 1 v zd] [.one (.sl 0 v 0 n),.one (.c (.int .i64 O7)),.one (.c (.int .i64 RD)),.one (.c (.int .i64 O4)),.one (.c (.fn zr zc))] [cc (λx=>[AC.lst (x.map cV)]) 1 v r] (.tup []):=by
 unfold oV at H;refine bB aj func202 rfl rfl ntmps202 m5 ?_;simp only[gp];obtain⟨PT,H⟩|⟨PT,H⟩:=ae H
 .exact nomatch Wl.symm.trans PT
 obtain⟨P9,H⟩|⟨P9,H⟩:=ae H
 .refine sg ?_
  refine alM_ (λs:Int×Int=>match s with|(WH,XG)=>[(0,.one (.sl 0 v 0 n)),(2,.one (.c (.int .i64 RD))),(4,.one (.c (.fn zr zc))),(14,.one (.c (.int .i64 WH))),(15,.one (.c (.int .i64 XG)))]) (λs=>match s with|(WH,XG)=>[cc (λx=>[AC.lst (x.map cV)]) 1 v zd]) H (λ_=>ah7 _)
   (fm_ bg [] rfl aQ ⟨aM _ _ _ _ _,t7⟩) ?_
  rintro⟨WH,XG⟩ st3 PZ hk3;unfold nj at PZ;dsimp only at PZ ⊢;obtain⟨RI,PZ⟩|⟨RI,PZ⟩:=ae PZ
  .obtain⟨g20,PZ⟩:=aq PZ
   obtain⟨g21,PZ⟩:=aq PZ;obtain⟨S8,i22,PZ⟩:=jJ PZ;obtain⟨g23,PZ⟩:=aq PZ;obtain⟨g24,PZ⟩:=aq PZ;obtain⟨Tz,i25,PZ⟩:=jJ PZ;obtain⟨Ru,Z3,PZ⟩:=bd_ PZ;replace Z3:=zj _ _ _ Z3;obtain⟨RB,PZ⟩|⟨RB,PZ⟩:=ae PZ
   .cases PZ
    refine sg ?_;exact⟨_,rfl,fm_ bg [] rfl aQ ⟨aM _ _ _ _ _,t7⟩⟩
   cases PZ;refine sg ?_;exact⟨_,rfl,fm_ bg [] rfl aQ ⟨aM _ _ _ _ _,t7⟩⟩
  cases PZ;have Rh:qO zd RD n (.inl (WH,XG))=some _:=hk3;unfold qO at Rh;dsimp only at Rh;refine sg ?_;refine alM_ (λs:(List (List Val))×Int=>match s with|(XH,XI)=>[(0,.one (.sl 0 v 0 n)),(14,.one (.c (.int .i64 WH))),(17,.one (.c (.int .i64 XI)))]) (λs=>match s with|(XH,XI)=>[cc (λx=>[AC.lst (x.map cV)]) 1 v XH]) Rh (λ_=>ah7 _)
   (fm_ bg [] rfl aQ ⟨aM _ _ _ _ _,t7⟩) ?_
  rintro⟨XH,XI⟩ Zk Py VD;unfold kC at Py;dsimp only at Py ⊢;obtain⟨U8,Py⟩|⟨U8,Py⟩:=ae Py
  .obtain⟨g27,Py⟩:=aq Py
   obtain⟨g28,Py⟩:=aq Py;obtain⟨VE,i29,Py⟩:=jJ Py;obtain⟨g30,Py⟩:=aq Py;obtain⟨g31,Py⟩:=aq Py;obtain⟨WI,i32,Py⟩:=jJ Py;obtain⟨g33,Py⟩:=aq Py;obtain⟨g34,Py⟩:=aq Py;obtain⟨g35,Py⟩:=aq Py;obtain⟨g36,Py⟩:=aq Py;obtain⟨g37,Py⟩:=aq Py;obtain⟨g38,Py⟩:=aq Py
   cases Py;refine sg ?_;exact⟨_,rfl,fm_ bg [] rfl aQ ⟨aM _ _ _ _ _,t7⟩⟩
  cases Py;have Qc:AG (.inl (XH,XI))=some _:=VD;unfold AG at Qc;dsimp only at Qc
  cases Qc;exact gX
 exact nomatch VN.symm.trans P9
end Go.Proofs.YtnbnpnmkgemdeaaGreatDoor
namespace Go.Proofs
open Go.Shelf Tryz
def growV_ren:Go.Shelf.Ren:=⟨λ|4=>259|n=>n,λ|22=>43|25=>57|3=>3|4=>4|9=>9|20=>20|0=>0|n=>n,λ|n=>n⟩
theorem growV:Go.Proofs.Lays8.n4 prog growV_ren :={
 mixed:=k7
 f4:=⟨f259.name,by decide,func259.trans (congrArg some k7)⟩
 t0:=underlying0
 a0:=isAgg0
 z0:=sizeOf0
 v0:=zeroValue0
 t3:=underlying3
 a3:=isAgg3
 z3:=sizeOf3
 v3:=zeroValue3
 t4:=underlying4
 a4:=isAgg4
 z4:=sizeOf4
 v4:=zeroValue4
 t9:=underlying9
 a9:=isAgg9
 z9:=sizeOf9
 v9:=zeroValue9
 t20:=underlying20
 a20:=isAgg20
 z20:=sizeOf20
 v20:=zeroValue20
 t22:=underlying43
 a22:=isAgg43
 z22:=sizeOf43
 v22:=zeroValue43 }
end Go.Proofs
namespace Go.Proofs.YtnbnpnmkgemdeaaGreatDoor
open IntKind (i64)
open Go.RowKit Tryz
open Go.RowKit Go.MapKept Tryz
theorem OO (n:Nat)(h0:0<n)(hn:n<=1000000000):RTz 259 [] [.one .emp,.one (.c (.int .i64 n))] [.row (57+65536) [] 3] (.one (.sl 0 (57+65536) 0 0)):=by
 refine⟨⟨_,func259,k7,k7⟩,λB R γ w vs hi hs hv=>?_⟩;obtain⟨v1,v2,rfl⟩:∃ a b,vs=#[a,b]:=by
  match vs,hs with
  |⟨[a,b]⟩,_=>exact⟨a,b,rfl⟩
 obtain⟨a,rfl⟩:=hv 0 v1 _ rfl rfl;have h2:bK R v2 (.int .i64 n):=hv 1 v2 _ rfl rfl
 cases h2;obtain⟨inf,z,Qa,Tc,RA,VS⟩:=aj.zok 57 rfl 3 (aj.size _ _ rfl);have QO:inf.bytes=32:=by have Su:=aj.bytes 57 32 rfl;unfold kH at Su;rw[Qa]at Su;simpa using Su
 have XJ:=Any8.slices_Grow_grow growV inf z Qa Tc (by rw[RA];decide) a 0 0 n [] w (ah7 _) m0 (by rw[QO];omega) m0 m5 (λ_=>rfl) (λ_ _ j v h=>by simp at h);refine(show Calls prog 259 #[.slice a 0 0,.int .i64 n] w _ from XJ).mono ?_;rintro e w' ⟨rfl,rfl⟩;have Tq:=grownCap_ge w (0+n) 0 57;have hE:(growV_ren.t 25)=57:=rfl;rw[hE];generalize grownCap w (0+n) 0 57=cap at Tq;have hγ:γ=[]:=aif (by rw[hi.len];rfl);subst hγ;have hm:Mv R R ([]:List Gh) ([]++[.arr w.heap.size cap]) [] ([]++[.row (57+65536) [] 3]):=Mv.push _ _ hi.len;have V0:Inv B R ([]++[.arr w.heap.size cap]) ([]++[.row (57+65536) [] 3]) (w.alloc (.cells (([]:List Value).toArray++Builtin.zeroCells z.cells (0+n-0)++Builtin.zeroCells z.cells (cap-(0+n))) 57)):=by
  refine hi.push _ _ _ rfl ⟨⟨_,57,⟨di w _,by show(57:Nat)=(57+65536)%65536;omega,by show 65536<=(57:Nat)+65536;omega⟩,?_,λi e j u x he hu hx=>by simp at he⟩,aia _,by decide,(λe he=>by cases he),λo=>hi.none_at o⟩;rw[Array.size_append,Array.size_append,size_zeroCells,size_zeroCells,VS];simp only[List.size_toArray,aik];rw[aiw,<- Nat.add_mul];congr 1;omega
 refine⟨_,R,_,rfl,⟨V0.len,λb o u h=>V0.val b o u h,λi x g h1 h2=>(V0.obj i x g h1 h2).mv Mv.refl (λ_ _=>rfl) (λ_ _ _ h=>h),V0.inj,V0.new,V0.bsz⟩,⟨⟨rfl,rfl,rfl,by show w.heap.size<=(w.heap.push _).size;simp,λb hb=>eC w.drew _ (hi.bsz b hb)⟩,PH.sub_refl _,λ_ _ _=>rfl⟩,hm,⟨rfl,rfl⟩,m5,λRl UC k2 e2=>?_⟩;simp at e2;obtain⟨q1,q2,q3⟩:=e2;subst q1 q2 q3;exact⟨ah7 _,λ_=>⟨m5,.arr w.heap.size cap,rfl,.inl m5⟩⟩
def cG (p:SV)(u:Nat)(s:ByteArray)(i:Nat):Ob := .row (219+65536) [[p,.sl (i+1) u 0 s.size]] 2
def cH (u:Nat)(s:ByteArray):Ob := .row u (bj s) 1
theorem adV : ∃ fn, prog.funcs[274]? = some fn /\ (fn.name == "runtime.NumGoroutine") = false /\ fn.body.isNone = true /\ Extern.findNext fn = none /\ Extern.find fn = some Extern.AbiNoEscape.same := ⟨_, func274, by kernel_rfl, by kernel_rfl, by kernel_rfl, by kernel_rfl⟩
theorem MD:∃ j,prog.info? 219=some j/\j.size=2:=by
 have h:(prog.info? 219).map (·.size)=some 2:=k7
 cases hi:prog.info? 219 with
 |none=>rw[hi]at h;cases h
 |some j=>rw[hi]at h;exact⟨j,rfl,by simpa using h⟩
theorem cj {n v k:Nat}{a b:SV}(ha:a.below n)(hb:b.below n):(Ob.row v [[a,b]] k).below n:=by
 intro e he x hx;obtain rfl|he:=ah8.1 he
 .obtain rfl|hx:=ah8.1 hx
  .exact ha
  .obtain rfl|hx:=ah8.1 hx
   .exact hb
   .cases hx
 .cases he
theorem bf (n u:Nat)(s:ByteArray):(cH u s).below n:=by
 intro e he x hx;obtain⟨y,_,rfl⟩:=aip.1 he;obtain rfl|hx:=ah8.1 hx
 .trivial
 .cases hx
theorem bN (s:ByteArray):(bj s).length=s.size:=by unfold bj;rw[ah3];simp
theorem ia (s t:ByteArray):bj (s++t)=bj s++bj t:=by
 unfold bj;rw[<- ah4];congr 1
theorem IH (σ:List Nat)(s:ByteArray):(bj s).map (List.map (SV.ren σ))=bj s:=by
 unfold bj;rw[List.map_map];rfl
theorem fg (σ:List Nat)(u:Nat)(s:ByteArray):(cH u s).ren σ=cH u s:=by simp only[cH,Ob.ren,IH]
theorem zC {i j:Nat}{L L':List Ob}{a b a' b':Ob}(ha:a.ren [i,j]=a')(hb:b.ren [i,j]=b')(h:(L.set i a').set j b'=L'):joinL [i,j] L [a,b]=L':=by
 subst ha hb h;simp[joinL,join,iI,dx,tB]
theorem pI {L:List Ob}{a b:Ob}{x:AV}{xs:List AV}{i j:Nat}(h0:L[i]?=some (a.ren [i,j]))(h1:L[j]?=some (b.ren [i,j]))(PE:i≠j)(ha:a.below 2)(hb:b.below 2)(hx:∀ y∈x::xs,y.below 2):ig [i,j] [a,b] (x::xs) L:=by
 refine⟨rfl,by simp[PE],λk y hy=>?_,bU ⟨ha,hb,t7⟩,hx⟩
 match k,hy with
 |0,hy=>simp at hy;subst hy;exact h0
 |1,hy=>simp at hy;subst hy;exact h1
 |k+2,hy=>simp at hy
theorem IM:prog.cellsOf 219=2:=k7
theorem aa6:prog.cellsOf 5=1:=k7
theorem oW (x:SV)(o:Ob)(hx:x.below 2)(ho:o.below 2):RTz 228 [.row (219+65536) [[(.c (.nul .ptr)),x]] 2,o] [.one (.ep 0 (219+65536) 0 0)] [.row (219+65536) [[(.ep 0 (219+65536) 0 0),x]] 2,o] (.tup []):=by
 obtain⟨j,hj,Xq⟩:=MD;obtain⟨fn,hf,hnm,Zd,QR,hfd⟩:=adV;refine bB aj func228 rfl rfl ntmps228 m5 ?_;simp only[gp]
 repeat' (first|refine gw_ aj bw ?_|refine gi_ (λhb=>?_) (λhb=>?_)|(refine cf rfl rfl rfl rfl rfl (ww rfl rfl (aj.kind 216 _ rfl)) ?_)|(refine cf rfl rfl rfl rfl rfl (pH rfl rfl rfl (aj.kind 216 _ rfl)) ?_)|(refine cf rfl rfl rfl rfl rfl (pz rfl rfl rfl (aj.kind 216 _ rfl) hj) ?_)|(refine cf rfl rfl rfl rfl rfl (kS rfl rfl (aj.kind 216 _ rfl) (aj.kind 278 _ rfl) hj (by rw[Xq];decide)) ?_)|(refine cf rfl rfl rfl rfl rfl (oM rfl rfl (aj.kind 278 _ rfl) (aj.kind 216 _ rfl) hj IM rfl) ?_)|(refine bQ rfl rfl rfl rfl rfl (nW rfl hf hnm Zd QR hfd) ?_)|fail)
 all_goals exact⟨.inl rfl,⟨.inr ⟨.tup [],⟨t7,rfl⟩,rfl⟩,⟨[],rfl⟩,m5,bU ⟨cj (by show 0<2;omega) hx,ho,t7⟩,by simp[CV.av,AV.below]⟩⟩
theorem qJ (x:SV)(o:Ob)(hx:x.below 2)(ho:o.below 2):RTz 228 [.row (219+65536) [[(.ep 0 (219+65536) 0 0),x]] 2,o] [.one (.ep 0 (219+65536) 0 0)] [.row (219+65536) [[(.ep 0 (219+65536) 0 0),x]] 2,o] (.tup []):=by
 obtain⟨j,hj,Xq⟩:=MD;obtain⟨fn,hf,hnm,Zd,QR,hfd⟩:=adV;refine bB aj func228 rfl rfl ntmps228 m5 ?_;simp only[gp]
 repeat' (first|refine gw_ aj bw ?_|refine gi_ (λhb=>?_) (λhb=>?_)|(refine cf rfl rfl rfl rfl rfl (ww rfl rfl (aj.kind 216 _ rfl)) ?_)|(refine cf rfl rfl rfl rfl rfl (pH rfl rfl rfl (aj.kind 216 _ rfl)) ?_)|(refine cf rfl rfl rfl rfl rfl (pz rfl rfl rfl (aj.kind 216 _ rfl) hj) ?_)|(refine cf rfl rfl rfl rfl rfl (kS rfl rfl (aj.kind 216 _ rfl) (aj.kind 278 _ rfl) hj (by rw[Xq];decide)) ?_)|(refine cf rfl rfl rfl rfl rfl (oM rfl rfl (aj.kind 278 _ rfl) (aj.kind 216 _ rfl) hj IM rfl) ?_)|(refine bQ rfl rfl rfl rfl rfl (nW rfl hf hnm Zd QR hfd) ?_)|fail)
 all_goals exact⟨.inl rfl,⟨.inr ⟨.tup [],⟨t7,rfl⟩,rfl⟩,⟨[],rfl⟩,m5,bU ⟨cj (by show 0<2;omega) hx,ho,t7⟩,by simp[CV.av,AV.below]⟩⟩
theorem uS (u:Nat)(s:ByteArray)(t:ByteArray)(hu:u%65536=5)(hs:s.size<=100000000000000)(ht:t.size<=1000000000000):RTz 184 [cG (.c (.nul .ptr)) u s 0,cH u s] [.one (.ep 0 (219+65536) 0 0),.one (.c (.str t))] [cG (.ep 0 (219+65536) 0 0) (u+65536) (s++t) 0,cH (u+65536) (s++t)] (.tup [.one (.int .i64 t.size),.one (.nul .iface)]):=by
 refine bB aj func184 rfl rfl ntmps184 m5 ?_;simp only[gp];unfold cG
 repeat' (first|(refine bQ rfl rfl rfl rfl rfl (jf aj (k:=1) (by_:=1) (xs:=bj t) rfl rfl rfl rfl ⟨rfl,rfl⟩ rfl hu rfl rfl rfl m0 (by exact bN s) (by rw[bN];omega) (by rw[bN];omega)) ?_)|(refine cl [0,1] rfl rfl rfl rfl (oW (.sl 1 u 0 s.size) (cH u s) (by show 1<2;omega) (bf _ _ _)) rfl (pI r5 (by rw[fg];rfl) m9 (cj trivial (by show 1<2;omega)) (bf _ _ _) (λy hy=>by rcases ah8.1 hy with rfl|hy<;>first|(show 0<2;omega)|cases hy)) rfl (zC rfl (fg _ _ _) rfl) ?_)|refine gw_ aj bw ?_|refine gi_ (λhb=>?_) (λhb=>?_)|fail)
 all_goals refine⟨.inr rfl,⟨.inr ⟨.tup [.one (.int .i64 t.size),.one (.nul .iface)],⟨⟨t7,t7,t7⟩,rfl⟩,rfl⟩,⟨[],?_⟩,m5,bU ⟨cj (by show 0<2;omega) (by show 1<2;omega),bf _ _ _,t7⟩,t7⟩⟩
 all_goals (rw[aio];show [Ob.row _ [[_,SV.sl (0+1) (u+65536) 0 (s.size+(bj t).length)]] 2,Ob.row (u+65536) (bj s++bj t) 1]=_;rw[bN,<- ia,<- ByteArray.size_append];rfl)
theorem dr (u:Nat)(s:ByteArray)(t:ByteArray)(hu:u%65536=5)(hs:s.size<=100000000000000)(ht:t.size<=1000000000000):RTz 184 [cG (.ep 0 (219+65536) 0 0) u s 0,cH u s] [.one (.ep 0 (219+65536) 0 0),.one (.c (.str t))] [cG (.ep 0 (219+65536) 0 0) (u+65536) (s++t) 0,cH (u+65536) (s++t)] (.tup [.one (.int .i64 t.size),.one (.nul .iface)]):=by
 refine bB aj func184 rfl rfl ntmps184 m5 ?_;simp only[gp];unfold cG
 repeat' (first|(refine bQ rfl rfl rfl rfl rfl (jf aj (k:=1) (by_:=1) (xs:=bj t) rfl rfl rfl rfl ⟨rfl,rfl⟩ rfl hu rfl rfl rfl m0 (by exact bN s) (by rw[bN];omega) (by rw[bN];omega)) ?_)|(refine cl [0,1] rfl rfl rfl rfl (qJ (.sl 1 u 0 s.size) (cH u s) (by show 1<2;omega) (bf _ _ _)) rfl (pI r5 (by rw[fg];rfl) m9 (cj (by show 0<2;omega) (by show 1<2;omega)) (bf _ _ _) (λy hy=>by rcases ah8.1 hy with rfl|hy<;>first|(show 0<2;omega)|cases hy)) rfl (zC rfl (fg _ _ _) rfl) ?_)|refine gw_ aj bw ?_|refine gi_ (λhb=>?_) (λhb=>?_)|fail)
 all_goals refine⟨.inr rfl,⟨.inr ⟨.tup [.one (.int .i64 t.size),.one (.nul .iface)],⟨⟨t7,t7,t7⟩,rfl⟩,rfl⟩,⟨[],?_⟩,m5,bU ⟨cj (by show 0<2;omega) (by show 1<2;omega),bf _ _ _,t7⟩,t7⟩⟩
 all_goals (rw[aio];show [Ob.row _ [[_,SV.sl (0+1) (u+65536) 0 (s.size+(bj t).length)]] 2,Ob.row (u+65536) (bj s++bj t) 1]=_;rw[bN,<- ia,<- ByteArray.size_append];rfl)
theorem iF (u:Nat)(s:ByteArray)(t:UInt8)(hu:u%65536=5)(hs:s.size<=100000000000000)  : RTz 186 [cG (.ep 0 (219+65536) 0 0) u s 0,cH u s] [.one (.ep 0 (219+65536) 0 0),.one (.c (.int .u8 t.toNat))] [cG (.ep 0 (219+65536) 0 0) (u+65536) (s++⟨#[t]⟩) 0,cH (u+65536) (s++⟨#[t]⟩)] (.one (.c (.nul .iface))):=by
 refine bB aj func186 rfl rfl ntmps186 m5 ?_;simp only[gp];unfold cG
 repeat' (first|(refine bQ rfl rfl rfl rfl rfl (jf aj (k:=1) (by_:=1) (xs:=bj ⟨#[t]⟩) rfl rfl rfl rfl ⟨rfl,_,rfl,by intro e he;simp at he;subst he;rfl⟩ rfl hu rfl rfl rfl m0 (by exact bN s) (by rw[bN];show(s.size+1)*1<=_;omega) (by rw[bN];show s.size+1<=_;omega)) ?_)|(refine cl [0,1] rfl rfl rfl rfl (qJ (.sl 1 u 0 s.size) (cH u s) (by show 1<2;omega) (bf _ _ _)) rfl (pI r5 (by rw[fg];rfl) m9 (cj (by show 0<2;omega) (by show 1<2;omega)) (bf _ _ _) (λy hy=>by rcases ah8.1 hy with rfl|hy<;>first|(show 0<2;omega)|cases hy)) rfl (zC rfl (fg _ _ _) rfl) ?_)|refine gw_ aj bw ?_|refine gi_ (λhb=>?_) (λhb=>?_)|fail)
 all_goals refine⟨.inr rfl,⟨.inl ⟨4,rfl,rfl⟩,⟨[],?_⟩,m5,bU ⟨cj (by show 0<2;omega) (by show 1<2;omega),bf _ _ _,t7⟩,t7⟩⟩
 all_goals (rw[aio];show [Ob.row _ [[_,SV.sl (0+1) (u+65536) 0 (s.size+(bj ⟨#[t]⟩).length)]] 2,Ob.row (u+65536) (bj s++bj ⟨#[t]⟩) 1]=_;rw[bN,<- ia,<- ByteArray.size_append];rfl)
theorem ac6 (u:Nat)(s:ByteArray)(hu:u%65536=5)(h0:0<s.size)(hs:s.size<=100000000000000):RTz 187 [cG (.ep 0 (219+65536) 0 0) u s 0,cH u s] [.one (.ep 0 (219+65536) 0 0)] [cG (.ep 0 (219+65536) 0 0) u s 0,.dead] (.one (.c (.str s))):=by
 refine bB aj func187 rfl rfl ntmps187 m5 ?_;simp only[gp];unfold cG
 repeat' (first|(refine cf rfl rfl rfl rfl rfl (sJ rfl rfl h0) ?_)|(refine Lj rfl rfl rfl rfl rfl (ny rfl rfl rfl hu (bw.kind _ _ rfl) aa6 h0 m0) ?_)|refine gw_ aj bw ?_|refine gi_ (λhb=>?_) (λhb=>?_)|fail)
 all_goals exact⟨.inr rfl,⟨.inl ⟨2,rfl,rfl⟩,⟨[],rfl⟩,m5,bU ⟨cj (by show 0<2;omega) (by show 1<2;omega),t7,t7⟩,t7⟩⟩
theorem ac3:RTz 187 [cG (.c (.nul .ptr)) 5 ⟨#[]⟩ 0,cH 5 ⟨#[]⟩] [.one (.ep 0 (219+65536) 0 0)] [cG (.c (.nul .ptr)) 5 ⟨#[]⟩ 0,cH 5 ⟨#[]⟩] (.one (.c (.str ⟨#[]⟩))):=by
 refine bB aj func187 rfl rfl ntmps187 m5 ?_;simp only[gp];unfold cG
 repeat' (first|(refine cf rfl rfl rfl rfl rfl (qI rfl rfl m9) ?_)|(refine Lj rfl rfl rfl rfl rfl (lM rfl rfl) ?_)|refine gw_ aj bw ?_|refine gi_ (λhb=>?_) (λhb=>?_)|fail)
 all_goals exact⟨.inr rfl,⟨.inl ⟨2,rfl,rfl⟩,⟨[],rfl⟩,m5,bU ⟨cj trivial (by show 1<2;omega),bf _ _ _,t7⟩,t7⟩⟩
end Go.Proofs.YtnbnpnmkgemdeaaGreatDoor
namespace Go.Proofs
open Go.Shelf Tryz
def laysM171_ren:Go.Shelf.Ren:=⟨λ|171=>185|243=>229|246=>275|283=>295|284=>296|285=>297|286=>298|129=>198|317=>307|318=>308|319=>309|320=>310|337=>313|338=>314|n=>n,λ|3=>3|9=>9|2=>2|4=>4|171=>290|0=>0|53=>238|37=>217|5=>5|173=>292|212=>299|51=>236|20=>20|213=>300|46=>176|232=>302|233=>303|n=>n,λ|17=>1|18=>2|19=>3|n=>n⟩
theorem laysM171:Go.Proofs.LaysM.n171 prog laysM171_ren :={
 mixed:=k7
 f129:=func198.trans (congrArg some k7)
 f171:=func185.trans (congrArg some k7)
 f243:=func229.trans (congrArg some k7)
 f246:=func275.trans (congrArg some k7)
 f283:=func295.trans (congrArg some k7)
 f284:=func296.trans (congrArg some k7)
 f285:=func297.trans (congrArg some k7)
 f286:=func298.trans (congrArg some k7)
 f317:=func307.trans (congrArg some k7)
 f318:=func308.trans (congrArg some k7)
 f319:=func309.trans (congrArg some k7)
 f320:=func310.trans (congrArg some k7)
 f337:=func313.trans (congrArg some k7)
 f338:=func314.trans (congrArg some k7)
 t0:=underlying0
 a0:=isAgg0
 z0:=sizeOf0
 v0:=zeroValue0
 t2:=underlying2
 a2:=isAgg2
 z2:=sizeOf2
 v2:=zeroValue2
 t3:=underlying3
 a3:=isAgg3
 z3:=sizeOf3
 v3:=zeroValue3
 t4:=underlying4
 a4:=isAgg4
 z4:=sizeOf4
 v4:=zeroValue4
 t5:=underlying5
 a5:=isAgg5
 z5:=sizeOf5
 v5:=zeroValue5
 t9:=underlying9
 a9:=isAgg9
 z9:=sizeOf9
 v9:=zeroValue9
 t20:=underlying20
 a20:=isAgg20
 z20:=sizeOf20
 v20:=zeroValue20
 t37:=underlying217
 a37:=isAgg217
 z37:=sizeOf217
 v37:=zeroValue217
 t46:=underlying176
 a46:=isAgg176
 z46:=sizeOf176
 v46:=zeroValue176
 t51:=underlying236
 a51:=isAgg236
 z51:=sizeOf236
 v51:=zeroValue236
 t53:=underlying238
 a53:=isAgg238
 z53:=sizeOf238
 v53:=zeroValue238
 t171:=underlying290
 a171:=isAgg290
 z171:=sizeOf290
 v171:=zeroValue290
 t173:=underlying292
 a173:=isAgg292
 z173:=sizeOf292
 v173:=zeroValue292
 t212:=underlying299
 a212:=isAgg299
 z212:=sizeOf299
 v212:=zeroValue299
 t213:=underlying300
 a213:=isAgg300
 z213:=sizeOf300
 t232:=underlying302
 a232:=isAgg302
 z232:=sizeOf302
 v232:=zeroValue302
 t233:=underlying303
 a233:=isAgg303
 z233:=sizeOf303
 v233:=zeroValue303
 g17:=k7
 g18:=k7
 g19:=k7
 i0:=k7
 i2:=k7
 i3:=k7
 i4:=k7
 i5:=k7
 i9:=k7
 i20:=k7
 i37:=k7
 i46:=k7
 i51:=k7
 i53:=k7
 i171:=k7
 i173:=k7
 i212:=k7
 i232:=k7
 i233:=k7
 m17:=k7
 m18:=k7
 m19:=by kernel_rfl }
end Go.Proofs
namespace Go.Proofs.YtnbnpnmkgemdeaaGreatDoor
open IntKind (i64)
open Go.Shelf Go.RowKit Go.Sort Go.Lib Tryz
section
variable {P:Program} {ρ:Ren}
def Iy (g:Nat)(w:World):Prop :=∀ q,q<20->w.cell? ⟨g,q,none⟩=some (.int .u64 ((10 ^ q:Nat):Int))
theorem Iy.alloc {g:Nat}{w:World}(h:Iy g w)(o:Obj):Iy g (w.alloc o):=λq hq=>by
 rw[World.cell?_alloc_old]
 .exact h q hq
 .exact Nat.ne_of_lt (lt_of_cell (h q hq))
abbrev CN (b:UInt8):Value:=Value.int .u8 (b.toNat:Int)
theorem GN (L:LaysM.n284 P ρ)(u:Nat)(h1:1<=u)(h2:u<18446744073709551616)(w:World)(hT:Iy (ρ.g 17) w) :
  Calls P (ρ.f 284) #[.int .u64 u] w λe w'=>e = .returned (.int .i64 (Lib.nDigits u))/\w'=w:=by
 have mixed:=L.mixed;have t53:=L.t53;have a53:=L.a53;have z53:=L.z53;have v53:=L.v53;have t3:=L.t3;have a3:=L.a3;have z3:=L.z3;have v3:=L.v3;have t212:=L.t212;have a212:=L.a212;have z212:=L.z212;have v212:=L.v212;have t0:=L.t0;have a0:=L.a0;have z0:=L.z0;have v0:=L.v0;have t4:=L.t4;have a4:=L.a4;have z4:=L.z4;have v4:=L.v4;have e129:∀ args w,(callFunc (ρ.f 129) args).run P w = .ok (.enter (ρ.f 129) args) w:=enters_of L.f129 k7 rfl;have e317:∀ args w,(callFunc (ρ.f 317) args).run P w = .ok (.enter (ρ.f 317) args) w:=enters_of L.f317 k7 rfl;have e318:∀ args w,(callFunc (ρ.f 318) args).run P w = .ok (.enter (ρ.f 318) args) w:=enters_of L.f318 k7 rfl;obtain⟨W7,Z4⟩:=Lib.numDigits_eq u h1 h2;have hL:Lib.bitLen u<=64:=Lib.bitLen_le u 64 (ah7 _) h2;have Yd:=hT (Lib.l10 (Lib.bitLen u)) m0;have hto:((u:Int)).toNat=u:=m0
 generalize hq:Lib.l10 (Lib.bitLen u)=q at W7 Z4 Yd;generalize hT2:10 ^ q=T at W7 Yd;have h20:q<20:=m0
 have Hnd:=Lib.hid W7;clear W7 hT
 go_enter L.f284,Body.n284_ntmps ρ
 go_wp2_with (first
  |(go_at_fn (ρ.f 129);refine(Any.bits_Len64 { L with } _ _ m0 m0).mono ?_;rintro e w' ⟨rfl,rfl⟩)
  |(go_at_fn (ρ.f 317);refine(Any.internal_strconv_log10Pow2 { L with } _ (by first|exact hL|(rw[hto];exact hL)) _).mono ?_;rintro e w' ⟨rfl,rfl⟩)
  |(go_at_fn (ρ.f 318);refine(Any.internal_strconv_bool2_int { L with } _ _).mono ?_;rintro e w' ⟨rfl,rfl⟩))
 all_goals go_ret
 all_goals (
  refine⟨?_,rfl⟩;have W7:=Hnd.out;congr 2;split at W7<;>simp_all<;>omega)
theorem Hv (L:LaysM.n246 P ρ)(n:Int)(h0 : -9223372036854775808<=n)(h1:n<=9223372036854775807)(w:World)(hT:Iy (ρ.g 17) w) :
  Calls P (ρ.f 246) #[.int .i64 n,.int .i64 10] w λe w'=>e = .returned (.string ⟨(Lib.itoa n).toArray⟩) /\ ∃ k os,w'=grow (w.drewN k) os:=by
 by_cases hs:0<=n/\n<100
 .obtain⟨i,rfl⟩:∃ i:Nat,n=i:=⟨n.toNat,m0⟩
  refine(Any.internal_strconv_FormatInt_10_small { L with } i m0 w).mono ?_;rintro e w' ⟨rfl,rfl⟩;exact⟨by rw[Lib.itoa_nonneg],0,#[],by simp[World.drewN_zero]⟩
 have mixed:=L.mixed;have t2:=L.t2;have a2:=L.a2;have z2:=L.z2;have v2:=L.v2;have t3:=L.t3;have a3:=L.a3;have z3:=L.z3;have v3:=L.v3;have t9:=L.t9;have a9:=L.a9;have z9:=L.z9;have v9:=L.v9;have t4:=L.t4;have a4:=L.a4;have z4:=L.z4;have v4:=L.v4;have t171:=L.t171;have a171:=L.a171;have z171:=L.z171;have v171:=L.v171;have t0:=L.t0;have a0:=L.a0;have z0:=L.z0;have v0:=L.v0;have t53:=L.t53;have a53:=L.a53;have z53:=L.z53;have v53:=L.v53;have t37:=L.t37;have a37:=L.a37;have z37:=L.z37;have v37:=L.v37;have t5:=L.t5;have a5:=L.a5;have z5:=L.z5;have v5:=L.v5;have t173:=L.t173;have a173:=L.a173;have z173:=L.z173;have v173:=L.v173;have e284:∀ args w,(callFunc (ρ.f 284) args).run P w = .ok (.enter (ρ.f 284) args) w:=enters_of L.f284 k7 rfl;have e285:∀ args w,(callFunc (ρ.f 285) args).run P w = .ok (.enter (ρ.f 285) args) w:=enters_of L.f285 k7 rfl;obtain⟨u,hu⟩:∃ u:Nat,u=n.natAbs:=⟨_,rfl⟩;have VR:1<=u:=m0
 have YM:u<18446744073709551616:=m0
 have hd20:Lib.nDigits u<=20:=by have:=Lib.numDigits_eq u VR YM;split at this<;>omega
 have PZ:Lib.nDigits u<=23:=m0
 have Vq:P.arrayLen (ρ.t 171)=24:=by simp[Program.arrayLen,L.t171]
 have Ze:P.underlying (ρ.t 171)=some (.array (P.arrayLen (ρ.t 171)) (P.elem (ρ.t 171))):=by simp[Program.arrayLen,Program.elem,L.t171]
 have hsl1:∀ W,(Instr.sliceAt (ρ.t 171) (.pointer (some ⟨w.heap.size,0,none⟩)) (some (.int .i64 1)) (some (.int .i64 (1+(Lib.nDigits u:Int)))) none).run P W = .ok (.slice (some ⟨w.heap.size,1,none⟩) (Lib.nDigits u) 23) W:=λW=>by
  rw[run_sliceAt_array_lh W (ρ.t 171) ⟨w.heap.size,0,none⟩ Ze .i64 .i64 1 (1+(Lib.nDigits u:Int)) m0 m0 (by rw[Vq];omega)]
  go_simp
  omega
 have hsl2:∀ W,(Instr.sliceAt (ρ.t 171) (.pointer (some ⟨w.heap.size,0,none⟩)) none (some (.int .i64 (1+(Lib.nDigits u:Int)))) none).run P W = .ok (.slice (some ⟨w.heap.size,0,none⟩) (1+Lib.nDigits u) 24) W:=λW=>by
  rw[run_sliceAt_array_h W (ρ.t 171) ⟨w.heap.size,0,none⟩ Ze .i64 (1+(Lib.nDigits u:Int)) m0 (by rw[Vq];omega)]
  go_simp
  omega
 have hH0:=Lib.holds_zero w (ρ.t 171) (Lib.nDigits u) m0;have YN:=Any.internal_strconv_formatBase10 { L with } w.heap.size 1 23 u (Array.replicate (Lib.nDigits u) 0) (w.alloc (.cells Lib.zeros24 (ρ.t 171))) hH0 (by rw[Array.size_replicate];exact Lib.lt_pow_nDigits u) YM (by rw[Array.size_replicate];omega);rw[Array.size_replicate]at YN;have HH0:=Lib.hid hH0;have hT1:=hT.alloc (.cells Lib.zeros24 (ρ.t 171));have Z5:=GN (ρ:=ρ) { L with } u VR YM _ hT1;clear hH0 hT hT1 Vq Ze;by_cases hn:n<0
 .have hw:IntKind.u64.wrap (-IntKind.u64.wrap (-(u:Int)))=(u:Int):=by rw[IntKind.wrap_u64,IntKind.wrap_u64];omega
  obtain rfl:n = -(u:Int):=m0
  clear hs hu
  go_enter L.f246,Body.n246_ntmps ρ
  go_wp2_with (go_at_fn (ρ.f 284);refine Z5.mono ?_;rintro e w' ⟨rfl,rfl⟩)
  go_at_fn (ρ.f 285)
  refine YN.mono ?_;rintro e w' ⟨rfl,k,v',dk,rfl,hF⟩;have Zi:((putRow CN (w.alloc (.cells Lib.zeros24 (ρ.t 171))) w.heap.size 1 dk).drewN k).cell? ⟨w.heap.size,0,none⟩=some (.int .u8 0):=by
   rw[World.cell?_drewN,cell?_putRow_other _ _ _ _ _ _ (Or.inr (Or.inl (Nat.zero_lt_one))),World.cell?_alloc_new];exact Lib.zeros24_at 0 m0
  have hf0:((putRow CN (w.alloc (.cells Lib.zeros24 (ρ.t 171))) w.heap.size 1 dk).drewN k).frozen? ⟨w.heap.size,0,none⟩=false:=by
   rw[World.frozen?_drewN,frozen?_putRow];exact World.frozen?_alloc_new _ _ _ _
  have Sl:(convert (ρ.t 37) (ρ.t 9) (.slice (some ⟨w.heap.size,0,none⟩) (1+Lib.nDigits u) 24)).run P (((putRow CN (w.alloc (.cells Lib.zeros24 (ρ.t 171))) w.heap.size 1 dk).drewN k).setCell ⟨w.heap.size,0,none⟩ (.int .u8 45)) = .ok (.string ⟨(45::Lib.decDigits u).toArray⟩) (((putRow CN (w.alloc (.cells Lib.zeros24 (ρ.t 171))) w.heap.size 1 dk).drewN k).setCell ⟨w.heap.size,0,none⟩ (.int .u8 45)):=by
   have h:=run_convert_bytes_back (P:=P) (((putRow CN (w.alloc (.cells Lib.zeros24 (ρ.t 171))) w.heap.size 1 dk).drewN k).setCell ⟨w.heap.size,0,none⟩ (.int .u8 45)) (ρ.t 37) (ρ.t 9) (ρ.t 5) ⟨w.heap.size,0,none⟩ 24 (45::Lib.decDigits u) L.t37 L.t5 L.t9 (λj hj=>by
    rw[Lib.add_plain]
    cases j with
    |zero=>exact World.cell?_setCell_same _ _ _ Zi
    |succ i =>
     have hi:i<(Lib.decDigits u).length:=by simpa using hj
     rw[World.cell?_setCell_other _ _ _ _ m5,List.getElem_cons_succ,Lib.row_is_numeral hF i hi,World.cell?_drewN,show 0+(i+1)=1+i by omega];exact cell?_putRow CN _ w.heap.size 1 _ dk HH0.out (by rw[hF.size,Array.size_replicate]) i (by rw[hF.size];rw[Lib.decDigits_length]at hi;exact hi))
   rw[aib,Lib.decDigits_length,Nat.add_comm]at h;exact h
  go_wp2
  go_ret
  obtain⟨os,eo⟩:=Lib.fin_neg w (.cells Lib.zeros24 (ρ.t 171)) dk k (.int .u8 45);exact⟨by rw[Lib.itoa_neg u VR];rfl,k,os,eo⟩
 .obtain rfl:n=(u:Int):=m0
  clear hu hsl2
  go_enter L.f246,Body.n246_ntmps ρ
  go_wp2_with (go_at_fn (ρ.f 284);refine Z5.mono ?_;rintro e w' ⟨rfl,rfl⟩)
  go_at_fn (ρ.f 285)
  refine YN.mono ?_;rintro e w' ⟨rfl,k,v',dk,rfl,hF⟩;have Sl:(convert (ρ.t 37) (ρ.t 9) (.slice (some ⟨w.heap.size,1,none⟩) (Lib.nDigits u) 23)).run P ((putRow CN (w.alloc (.cells Lib.zeros24 (ρ.t 171))) w.heap.size 1 dk).drewN k) = .ok (.string ⟨(Lib.decDigits u).toArray⟩) ((putRow CN (w.alloc (.cells Lib.zeros24 (ρ.t 171))) w.heap.size 1 dk).drewN k):=by
   have h:=run_convert_bytes_back (P:=P) ((putRow CN (w.alloc (.cells Lib.zeros24 (ρ.t 171))) w.heap.size 1 dk).drewN k) (ρ.t 37) (ρ.t 9) (ρ.t 5) ⟨w.heap.size,1,none⟩ 23 (Lib.decDigits u) L.t37 L.t5 L.t9 (λj hj=>by
    rw[Lib.row_is_numeral hF j hj,Lib.add_plain,World.cell?_drewN];exact cell?_putRow CN _ w.heap.size 1 _ dk HH0.out (by rw[hF.size,Array.size_replicate]) j (by rw[hF.size];rw[Lib.decDigits_length]at hj;exact hj))
   rw[Lib.decDigits_length]at h;exact h
  go_wp2
  go_ret
  obtain⟨os,eo⟩:=Lib.fin_pos w (.cells Lib.zeros24 (ρ.t 171)) dk k;exact⟨by rw[Lib.itoa_nonneg];rfl,k,os,eo⟩
theorem ack (L:LaysM.n243 P ρ)(n:Int)(h0 : -9223372036854775808<=n)(h1:n<=9223372036854775807)(w:World)(hT:Iy (ρ.g 17) w) :
  Calls P (ρ.f 243) #[.int .i64 n] w λe w'=>e = .returned (.string ⟨(Lib.itoa n).toArray⟩) /\ ∃ k os,w'=grow (w.drewN k) os:=by
 have mixed:=L.mixed;have t3:=L.t3;have a3:=L.a3;have z3:=L.z3;have v3:=L.v3;have t9:=L.t9;have a9:=L.a9;have z9:=L.z9;have v9:=L.v9;have e246:∀ args w,(callFunc (ρ.f 246) args).run P w = .ok (.enter (ρ.f 246) args) w:=enters_of L.f246 k7 rfl;have hf:=Hv (ρ:=ρ) { L with } n h0 h1 w hT
 go_enter L.f243,Body.n243_ntmps ρ
 go_wp2_with (go_at_fn (ρ.f 246);refine hf.mono ?_;rintro e w' ⟨rfl,k,os,rfl⟩)
 go_ret
 exact⟨rfl,k,os,rfl⟩
theorem aeX (L:LaysM.n171 P ρ)(n:Int)(h0 : -9223372036854775808<=n)(h1:n<=9223372036854775807)(w:World)(hT:Iy (ρ.g 17) w) :
  Calls P (ρ.f 171) #[.int .i64 n] w λe w'=>e = .returned (.string ⟨(Lib.itoa n).toArray⟩) /\ ∃ k os,w'=grow (w.drewN k) os:=by
 have mixed:=L.mixed;have t3:=L.t3;have a3:=L.a3;have z3:=L.z3;have v3:=L.v3;have t9:=L.t9;have a9:=L.a9;have z9:=L.z9;have v9:=L.v9;have e243:∀ args w,(callFunc (ρ.f 243) args).run P w = .ok (.enter (ρ.f 243) args) w:=enters_of L.f243 k7 rfl;have hf:=ack (ρ:=ρ) { L with } n h0 h1 w hT
 go_enter L.f171,Body.n171_ntmps ρ
 go_wp2_with (go_at_fn (ρ.f 243);refine hf.mono ?_;rintro e w' ⟨rfl,k,os,rfl⟩)
 go_ret
 exact⟨rfl,k,os,rfl⟩
end
def ce (n:Int):ByteArray:=⟨(Lib.itoa n).toArray⟩
theorem Ig (R:PH)(w:World)(k:Nat)(os:Array Obj):Ext (· <w.heap.size) R R w (grow (w.drewN k) os):=by
 exact⟨Kept.of (Lib.below_grow _ w (ah7 _) k os),PH.sub_refl _,λ_ _ _=>rfl⟩
theorem vR (n:Int)(h0 : -9223372036854775808<=n)(h1:n<=9223372036854775807):PTz 185 [.one (.int .i64 n)] (.val (.one (.str (ce n)))):=by
 refine⟨⟨_,func185,k7,k7⟩,λR w vs hR hs hv=>?_⟩;obtain⟨v,rfl⟩:∃ v,vs=#[v]:=by
  match vs,hs with
  |⟨[v]⟩,_=>exact⟨v,rfl⟩
 have:=hv 0 v _ rfl rfl
 cases this;have hT:Iy (laysM171_ren.g 17) w:=λq hq=>hR _ _ _ (R.tab q _ (by unfold FP;rw[if_pos hq];norm_cast))
 refine(show Calls prog 185 #[.int .i64 n] w _ from aeX laysM171 n h0 h1 w hT).mono ?_;rintro e w' ⟨rfl,k,os,rfl⟩;refine⟨_,R,rfl,Ig R w k os,λb o u h=>?_,.str _⟩;have h1:=hR b o u h;rw[<- h1];unfold World.cell?;rw[show(grow (w.drewN k) os).heap[b]?=w.heap[b]? from(Ig R w k os).below.block b (lt_of_cell h1)]
open Go.RowKit Go.MapKept Tryz
def xK:TI :={ OQ with dyn:=false }
theorem ax:TIok prog xK:=⟨aj.size,aj.agg,aj.elem,aj.field,aj.zero,aj.bytes,aj.kind,aj.struct,aj.zok,aj.eqs⟩
def afX:TI :={ xK with soft:=true }
theorem ar:TIok prog afX:=⟨aj.size,aj.agg,aj.elem,aj.field,aj.zero,aj.bytes,aj.kind,aj.struct,aj.zok,aj.eqs⟩
def c32:ByteArray:=⟨#[32]⟩
def KO (v:Val):Prop:=(-9223372036854775808<=v.kind/\v.kind<=9223372036854775807)/\(-9223372036854775808<=v.int/\v.int<=9223372036854775807)/\v.text.size<=10000000000
theorem nE (n:Int)(h0 : -9223372036854775808<=n)(h1:n<=9223372036854775807):(ce n).size<=30/\0<(ce n).size:=by
 unfold ce;show(Lib.itoa n).toArray.size<=30/\0<(Lib.itoa n).toArray.size;rw[List.size_toArray];have key:∀ u:Nat,u<18446744073709551616->Lib.nDigits u<=20:=by
  intro u h;obtain rfl|h1:=Nat.eq_zero_or_pos u
  .rw[Lib.nDigits_small m0];omega
  .have:=Lib.numDigits_eq u h1 h;split at this<;>omega
 by_cases hn:n<0
 .obtain⟨u,rfl⟩:∃ u:Nat,n = -(u:Int):=⟨n.natAbs,m0⟩
  rw[Lib.itoa_neg u m0,aib,Lib.decDigits_length];have:=key u m0;omega
 .obtain⟨u,rfl⟩:∃ u:Nat,n=(u:Int):=⟨n.toNat,m0⟩
  rw[Lib.itoa_nonneg,Lib.decDigits_length];have:=key u m0;have:=Lib.nDigits_pos u;omega
def pB (fresh:Bool):SV:=if fresh then .c (.nul .ptr)else(.ep 0 (219+65536) 0 0)
theorem I1 {L:List Ob}{p:SV}{u:Nat}{s:ByteArray}{x:AV}{xs:List AV}(hL0:L[0]?=some (cG p u s 0))(hL1:L[1]?=some (cH u s))(hp:p.ren [0,1]=p)(hpb:p.below 2)(hx:∀ y∈x::xs,y.below 2):ig [0,1] [cG p u s 0,cH u s] (x::xs) L:=by
 refine pI ?_ (by rw[fg];exact hL1) m9 (cj hpb (by show 1<2;omega)) (bf _ _ _) hx;rw[hL0];show some (Ob.row _ [[p,SV.sl 1 u 0 s.size]] 2)=some (Ob.row _ [[p.ren [0,1],SV.sl 1 u 0 s.size]] 2);rw[hp]
theorem j2 {L L':List Ob}{u:Nat}{s:ByteArray}(h:(L.set 0 (cG (.ep 0 (219+65536) 0 0) u s 0)).set 1 (cH u s)=L'):joinL [0,1] L [cG (.ep 0 (219+65536) 0 0) u s 0,cH u s]=L':=zC rfl (fg _ _ _) h
def afS:TI :={ tab with owns:=λf=>f==259||tab.owns f }
theorem fR:TIok prog afS:=⟨tab_ok.size,tab_ok.agg,tab_ok.elem,tab_ok.field,tab_ok.zero,tab_ok.bytes,tab_ok.kind,tab_ok.struct,tab_ok.zok,tab_ok.eqs⟩
def CX (a b:List Val):Nat->Nat
 |0=>0
 |1=>a.length
 |_=>a.length+b.length
def aaL (a b:List Val):Nat->List Val
 |0=>[]
 |1=>a
 |_=>a++b
theorem GX (l:List Val):∀ e∈l.map cV,e.length=3:=by intro e he;obtain⟨x,_,rfl⟩:=aip.1 he;rfl
theorem E1 {id v w n m:Nat}(h:n=m)(hv:v=w):some (AV.one (.sl id v 0 n))=some (AV.one (.sl id w 0 m)):=by subst h hv;rfl
theorem I7 {v w k:Nat}{a b:List (List SV)}(h:a=b)(hv:v=w):[Ob.row v a k]=[Ob.row w b k]:=by rw[h,hv]
theorem Gk (a b:List Val)(h0:0<a.length+b.length)(h1:a.length+b.length<=1000000):PTz 218 [.one (.lst [[bD a],[bD b]])] (.val (.one (bD (a++b)))):=by
 refine pa_ fR func218 rfl rfl ntmps218 m5 ?_;simp only[argT,PV.av,ah2,ah6];have ha:(((a.map cV).length:Nat):Int)=a.length:=by simp
 have hb:(((b.map cV).length:Nat):Int)=b.length:=by simp
 have w1:i64.wrap (((CX a b 0:Nat):Int)+((a.map cV).length:Nat))=((CX a b 1:Nat):Int):=by rw[ha];exact a8 (by simp[CX]) (by simp only[CX];omega)
 have w2:i64.wrap (((CX a b 1:Nat):Int)+((b.map cV).length:Nat))=((CX a b 2:Nat):Int):=by rw[hb];exact a8 (by simp[CX]) (by simp only[CX];omega)
 have n1:decide (((CX a b 1:Nat):Int)<0)=false:=ahU m0;have n2:decide (((CX a b 2:Nat):Int)<0)=false:=ahU m0
 repeat' (first|refine gw_ fR tabS_ok ?_|refine gi_ (λhb=>?_) (λhb=>?_)|fail)
 refine b7 (λi:Nat=>[(0,.one (.c (.lst [[bD a],[bD b]]))),(3,.one (.c (.int .i64 (CX a b i)))),(9,.one (.c (.lst [[bD a],[bD b]]))),(10,.one (.c (.int .i64 2))),(11,.one (.c (.int .i64 i)))]) (λ_=>[]) (λi=>i<=2) (λi=>2-i) 0 m0 (λ_ _=>aia _)
  (fm_ ⟨rfl,rfl,rfl,rfl,rfl,t7⟩ [] rfl (by repeat' (first|exact t7|apply And.intro)) (by repeat' (first|exact t7|apply And.intro))) ?_
 intro i hi
 match i,hi with
 |0,_ =>
  repeat' (first|rw[w1]|rw[n1]|refine gw_ fR tabS_ok ?_|refine gi_ (λhb=>?_) (λhb=>?_)|fail)
  exact⟨1,m0,m0,fm_ ⟨rfl,rfl,rfl,rfl,rfl,t7⟩ [] rfl (by repeat' (first|exact t7|apply And.intro)) (by repeat' (first|exact t7|apply And.intro))⟩
 |1,_ =>
  repeat' (first|rw[w2]|rw[n2]|refine gw_ fR tabS_ok ?_|refine gi_ (λhb=>?_) (λhb=>?_)|fail)
  exact⟨2,m0,m0,fm_ ⟨rfl,rfl,rfl,rfl,rfl,t7⟩ [] rfl (by repeat' (first|exact t7|apply And.intro)) (by repeat' (first|exact t7|apply And.intro))⟩
 |2,_ =>
  have hg:=OO (a.length+b.length) h0 m0
  repeat' (first|(refine cl [] (r' := .one (.sl 0 (57+65536) 0 0)) (L':=[.row (57+65536) [] 3]) rfl rfl rfl rfl hg rfl ⟨rfl,m5,λi x hx=>by simp at hx,λx hx=>by simp at hx,iO ⟨t7,t7,t7⟩⟩ rfl rfl ?_)|refine gw_ fR tabS_ok ?_|refine gi_ (λhb=>?_) (λhb=>?_)|fail)
  refine b7 (λi:Nat=>[(6,.one (.sl 0 (57+65536+65536*i) 0 (CX a b i))),(25,.one (.c (.lst [[bD a],[bD b]]))),(26,.one (.c (.int .i64 2))),(27,.one (.c (.int .i64 i)))]) (λi=>[.row (57+65536+65536*i) (((aaL a b i).map cV).map (List.map SV.c)) 3]) (λi=>i<=2) (λi=>2-i) 0 m0 (λ_ _=>aia _)
   (fm_ ⟨E1 rfl m0,rfl,rfl,rfl,t7⟩ [] (I7 rfl m0) ⟨Nat.zero_lt_one,t7,t7,t7,t7⟩ ⟨iZ _ _ _ _ _,t7⟩) ?_
  intro i hi
  match i,hi with
  |0,_ =>
   repeat' (first|(refine bQ rfl rfl rfl rfl rfl (jf fR (k:=3) (by_:=32) (xs:=(a.map cV).map (List.map SV.c)) rfl rfl rfl rfl ⟨rfl,_,rfl,GX _⟩ rfl m0 rfl rfl rfl m9 (by simp[aaL,CX]) (by rw[ah3,ah3];simp only[CX];omega) (by rw[ah3,ah3];simp only[CX];omega)) ?_)|refine gw_ fR tabS_ok ?_|refine gi_ (λhb=>?_) (λhb=>?_)|fail)
   exact⟨1,m0,m0,fm_ ⟨E1 (by simp[CX]) m0,rfl,rfl,rfl,t7⟩ [] (I7 (by simp[aaL]) m0) ⟨Nat.zero_lt_one,t7,t7,t7,t7⟩ ⟨iZ _ _ _ _ _,t7⟩⟩
  |1,_ =>
   repeat' (first|(refine bQ rfl rfl rfl rfl rfl (jf fR (k:=3) (by_:=32) (xs:=(b.map cV).map (List.map SV.c)) rfl rfl rfl rfl ⟨rfl,_,rfl,GX _⟩ rfl m0 rfl rfl rfl m9 (by simp[aaL,CX]) (by rw[ah3,ah3];simp only[CX];omega) (by rw[ah3,ah3];simp only[CX];omega)) ?_)|refine gw_ fR tabS_ok ?_|refine gi_ (λhb=>?_) (λhb=>?_)|fail)
   exact⟨2,m0,m0,fm_ ⟨E1 (by simp[CX]) m0,rfl,rfl,rfl,t7⟩ [] (I7 (by simp[aaL]) m0) ⟨Nat.zero_lt_one,t7,t7,t7,t7⟩ ⟨iZ _ _ _ _ _,t7⟩⟩
  |2,_ =>
   refine ga 0 6 (cs:=(a++b).map cV) rfl (qX _) rfl (by rw[ah3,ahZ];rfl) ?_
   repeat' (first|refine gw_ fR tabS_ok ?_|refine gi_ (λhb=>?_) (λhb=>?_)|fail)
   exact az (aE rfl (by trivial) rfl)
def J4 (a b:List Val):Bool:=decide (0<a.length+b.length)&&decide (a.length+b.length<=1000000)
def mt (a b:List Val):Option (List Val):=bif J4 a b then some (a++b)else none
theorem xl {a b r:List Val}(H:mt a b=some r):PTz 167 [.one (.lst (a.map cV)),.one (.lst (b.map cV))] (.val (.one (.lst (r.map cV)))):=by
 unfold mt at H;obtain⟨g,H⟩:=ie H;obtain rfl:=aim H;unfold J4 at g;rw[ah9]at g;have hc:=Gk a b (aii g.1) (aii g.2);refine po_ func167 ntmps167 ?_
 repeat' (first|refine t_ rfl rfl rfl rfl ?_|refine au rfl rfl rfl rfl hc rfl ?_|refine gw_ tab_ok tabS_ok ?_|refine gi_ (λhb=>?_) (λhb=>?_)|fail)
 exact az (aE rfl (by trivial) rfl)
def ul (n:Int):Option (List Val):=bif decide (n<1)then some []else bif decide (4096<n)then some []else some (List.replicate n.toNat ⟨0,0,ByteArray.empty⟩)
theorem Jk {n:Int}{r:List Val}(H:ul n=some r):PTz 168 [.one (.int .i64 n)] (.val (.one (.lst (r.map cV)))):=by
 unfold ul at H;have hnr:jk (List.replicate n.toNat [SV.c (.int .i64 0),.c (.int .i64 0),.c (.str ByteArray.empty)])=some (List.replicate n.toNat (cV ⟨0,0,ByteArray.empty⟩)):=by
  have:=qX (List.replicate n.toNat (cV ⟨0,0,ByteArray.empty⟩));rwa[List.map_replicate]at this
 refine po_ func168 ntmps168 ?_;rcases h1:decide (n<1)with _|_
 .rw[h1,ahS]at H
  rcases h2:decide (4096<n)with _|_
  .rw[h2,ahS]at H
   obtain rfl:=aim H;have g1:=of_decide_eq_false h1;have g2:=of_decide_eq_false h2
   repeat' (first|rw[h1]|rw[h2]|(refine bQ rfl rfl rfl rfl rfl (rh tab_ok (k:=3) (by_:=32) rfl rfl rfl m9 rfl rfl rfl rfl rfl m9 m0 m0 m0) ?_)|(refine ga 0 2 (cs:=List.replicate n.toNat (cV ⟨0,0,ByteArray.empty⟩)) rfl hnr rfl m5 ?_)|refine gw_ tab_ok tabS_ok ?_|refine gi_ (λhb=>?_) (λhb=>?_)|fail)
   exact az (aE rfl (by trivial) (by rw[List.map_replicate];rfl))
  .rw[h2,ahT]at H
   obtain rfl:=aim H
   repeat' (first|rw[h1]|rw[h2]|refine gw_ tab_ok tabS_ok ?_|refine gi_ (λhb=>?_) (λhb=>?_)|fail)
   exact az (aE rfl (by trivial) rfl)
 .rw[h1,ahT]at H
  obtain rfl:=aim H
  repeat' (first|rw[h1]|refine gw_ tab_ok tabS_ok ?_|refine gi_ (λhb=>?_) (λhb=>?_)|fail)
  exact az (aE rfl (by trivial) rfl)
def ab2 (b:UInt8):Prop:=48<=b.toNat/\b.toNat<=57
theorem EK {d:Nat}(h:d<10):(UInt8.ofNat (48+d)).toNat=48+d:=by
 rw[UInt8.toNat_ofNat'];omega
theorem fQ (u:Nat):∀ b∈Lib.decDigits u,ab2 b:=by
 induction u using Nat.strongRecOn with
 |_ u ih =>
  intro b hb;rw[Lib.decDigits]at hb;split at hb
  .rename_i h
   rw[List.mem_singleton.1 hb];unfold ab2;rw[EK h];omega
  .rename_i h
   obtain hb|hb:=aih.1 hb
   .exact ih (u/10) m0 b hb
   .rw[List.mem_singleton.1 hb];unfold ab2;rw[EK m0];omega
def EN (l:List UInt8):Nat:=l.foldl (λa b=>a*10+(b.toNat-48)) 0
theorem GV (l:List UInt8)(b:UInt8):EN (l++[b])=EN l*10+(b.toNat-48):=by unfold EN;rw[List.foldl_append];rfl
theorem sq (u:Nat):EN (Lib.decDigits u)=u:=by
 induction u using Nat.strongRecOn with
 |_ u ih =>
  rw[Lib.decDigits];split
  .rename_i h
   show 0*10+((UInt8.ofNat (48+u)).toNat-48)=u;rw[EK h];omega
  .rename_i h
   rw[GV,ih (u/10) m0,EK m0];omega
theorem so {u v:Nat}(h:Lib.decDigits u=Lib.decDigits v):u=v:=by rw[<- sq u,h,sq]
theorem nc {n m:Int}(h:Lib.itoa n=Lib.itoa m):n=m:=by
 have key:∀ (a b:Nat),Lib.decDigits a≠45::Lib.decDigits b:=by
  intro a b e;have:=(fQ a 45 (by rw[e];simp)).1;exact absurd this m9
 unfold Lib.itoa at h;split at h<;>split at h
 .have:=so (List.cons.inj h).2;omega
 .exact absurd h.symm (key _ _)
 .exact absurd h (key _ _)
 .have:=so h;omega
theorem aad (a b:ByteArray):(a++b).data.toList=a.data.toList++b.data.toList:=by simp
def ct:ByteArray:=⟨#[58]⟩
def df (l:List Val):ByteArray:=l.foldl (λa v=>a++ce v.kind++ct++ce v.int++ct++ce v.text.size++ct++v.text) ⟨#[]⟩
theorem xX:∀ (a b x y:List UInt8),(58:UInt8)∉a->(58:UInt8)∉b->a++58::x=b++58::y->a=b/\x=y
 |[],[],x,y,_,_,h=>by simpa using h
 |[],c::b,x,y,_,hb,h=>by
  simp at h;exact absurd h.1.symm (λe=>hb (by rw[e];simp))
 |c::a,[],x,y,ha,_,h=>by
  simp at h;exact absurd h.1 (λe=>ha (by rw[e];simp))
 |c::a,d::b,x,y,ha,hb,h=>by
  simp at h;obtain⟨h1,h2⟩:=xX a b x y (λq=>ha (aid _ q)) (λq=>hb (aid _ q)) h.2;exact⟨by rw[h.1,h1],h2⟩
theorem kq (n:Int):(58:UInt8)∉Lib.itoa n:=by
 intro h;unfold Lib.itoa at h;split at h
 .obtain h|h:=ah8.1 h
  .exact absurd h m9
  .have:=(fQ _ _ h).2;exact absurd this m9
 .have:=(fQ _ _ h).2;exact absurd this m9
def uR (v:Val):List UInt8:=Lib.itoa v.kind++58::(Lib.itoa v.int++58::(Lib.itoa v.text.size++58::v.text.data.toList))
def su (l:List Val):List UInt8:=l.flatMap uR
theorem Dq (l:List Val):(df l).data.toList=su l:=by
 have:∀ (l:List Val) (a:ByteArray),(l.foldl (λa v=>a++ce v.kind++ct++ce v.int++ct++ce v.text.size++ct++v.text) a).data.toList=a.data.toList++su l:=by
  intro l
  induction l with
  |nil=>intro a;simp[su]
  |cons v l ih =>
   intro a;rw[aiC,ih];have e1:∀ n,(ce n).data.toList=Lib.itoa n:=λn=>rfl
   have e2:ct.data.toList=[58]:=rfl;simp only[aad,e1,e2,su,ais,uR,aig,List.cons_append,ahW]
 have:=this l ⟨#[]⟩;simpa[df]using this
theorem I5 {v w:Val}{x y:List UInt8}(h:uR v++x=uR w++y):v=w/\x=y:=by
 unfold uR at h;simp only[aig,List.cons_append]at h;obtain⟨h1,h⟩:=xX _ _ _ _ (kq _) (kq _) h;obtain⟨h2,h⟩:=xX _ _ _ _ (kq _) (kq _) h;obtain⟨h3,h⟩:=xX _ _ _ _ (kq _) (kq _) h;have h3:=nc h3;have hs:v.text.data.toList.length=w.text.data.toList.length:=by
  have e:∀ s:ByteArray,s.data.toList.length=s.size:=λs=>rfl
  rw[e,e];omega
 obtain⟨h4,h5⟩:=List.append_inj h hs;refine⟨?_,h5⟩;obtain⟨a,b,⟨⟨c⟩⟩⟩:=v;obtain⟨a',b',⟨⟨c'⟩⟩⟩:=w;simp only at h1 h2 h4;rw[nc h1,nc h2,h4]
theorem DG:∀ (a b:List Val),su a=su b->a=b
 |[],[],_=>rfl
 |[],w::b,h=>by
  have:=congrArg List.length h;simp[su,uR]at this
 |v::a,[],h=>by
  have:=congrArg List.length h;simp[su,uR]at this
 |v::a,w::b,h=>by
  have h':uR v++su a=uR w++su b:=h;obtain⟨h1,h2⟩:=I5 h';rw[h1,DG a b h2]
theorem pL {a b:List Val}(h:df a=df b):a=b:=DG a b (by rw[<- Dq,<- Dq,h])
