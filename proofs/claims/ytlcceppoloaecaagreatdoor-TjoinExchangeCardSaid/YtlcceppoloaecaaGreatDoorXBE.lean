/- Parts. No condition. -/
import Derived.Test.YtlcceppoloaecaaGreatDoorXBD
set_option maxHeartbeats 8000000
set_option maxRecDepth 100000
set_option linter.unusedSimpArgs false
set_option linter.unusedVariables false
namespace Go.Proofs.YtlcceppoloaecaaGreatDoor
open IntKind (i64)
open Go.RowKit Go.MapKept
section
variable {α:Type} {lt:α->α->Bool} {S:α->Prop} {cmp:α->α->Option Int}
def Jv (rec:Nat->List α->Int->Int->Int->(α->α->Option Int)->Option (List α))(cmp:α->α->Option Int)(n:Nat)(D:List α)(a s m e mid b:Int):Option (List α) :=
 (bif decide (s<m)&&decide (m<e)then np n D s m e cmp else some D).bind fun c1 =>
 (bif decide (a<s)&&decide (s<mid)then rec n c1 a s mid cmp else some c1).bind fun c2 =>
 (bif decide (mid<e)&&decide (e<b)then rec n c2 mid e b cmp else some c2).bind fun c3=>some c3
theorem ag8 (rec:Nat->List α->Int->Int->Int->(α->α->Option Int)->Option (List α))(n:Nat)(D:List α)(a m b s:Int):kn D a m b cmp n rec (.inl (s,s))=Jv rec cmp n D a s m (i64.wrap ((i64.wrap ((bN (i64.wrap (a+b)))+m))-s)) (bN (i64.wrap (a+b))) b:=by
 unfold kn Jv;dsimp only;generalize bN (i64.wrap (a+b))=mid;generalize i64.wrap (i64.wrap (mid+m)-s)=e;generalize decide (s<m)=d1;generalize decide (m<e)=d2;generalize decide (a<s)=d3;generalize decide (s<mid)=d4;generalize decide (mid<e)=d5;generalize decide (e<b)=d6
 cases d1<;>cases d2<;>cases d3<;>cases d4<;>cases d5<;>cases d6<;>rfl
theorem aoK (D:List α)(a m b:Int)(n:Nat):xn D a m b cmp n=j7 D a m b cmp n:=rfl
theorem apc (rec:Nat->List α->Int->Int->Int->(α->α->Option Int)->Option (List α))(D:List α)(a m b:Int)(n:Nat):sX D a m b cmp n rec=kn D a m b cmp n rec:=by
 funext q
 cases q<;>rfl
theorem aef (h:xG lt S)(hc:l9 cmp lt S){n:Nat}(PG:n<=1000000000){D:List α}(hD:D.length=n)(hS:∀ z∈D,S z){a m b lo hi:Nat}(hab:a<m/\m<b/\b<=n)(hlh:lo<=hi)(Pj:a<=lo)(Pq:hi<=m)(hlo2:(a+b)/2+m<=lo+b)(hhi2:hi+a<=(a+b)/2+m )(hhi3:hi<=(a+b)/2)(hlo3:m<=(a+b)/2+m-hi) :
  ∃ s:Nat,ao (j7 D (a:Int) (m:Int) (b:Int) cmp n) fuel ((lo:Int),(hi:Int))=some (.inl ((s:Int),(s:Int)))/\lo<=s/\s<=hi/\(s=lo \/ ∃ x y,D[s-1]?=some x/\D[(a+b)/2+m-s]?=some y/\lt y x=false)/\(s=hi \/ ∃ x y,D[(a+b)/2+m-1-s]?=some x/\D[s]?=some y/\lt x y=true):=by
 obtain⟨s,hs,s1,s2,s3,s4⟩:=xf (body:=j7 D (a:Int) (m:Int) (b:Int) cmp n) lo hi (p5F lt D ((a+b)/2+m-1)) (by
  intro i j Q5 S1 hj;obtain⟨x,hx⟩:=gol_ (l:=D) (i:=(a+b)/2+m-1-(i+j)/2) m0;obtain⟨y,hy⟩:=gol_ (l:=D) (i:=(i+j)/2) m0;obtain⟨r,hr,SL⟩:=hc x y (hS x (arb hx)) (hS y (arb hy));unfold j7;dsimp only;rw[yy (i:=i) (j:=j) m0,yy (i:=a) (j:=b) m0,wrA ((a+b)/2) m m0,wr1 _ m0 m0,wrS ((a+b)/2+m-1) ((i+j)/2) m0 m0,wrapN m0];simp only[HW S1,Nx,HW (show(i+j)/2<n by omega),HW (show(a+b)/2+m-1-(i+j)/2<n by omega),aq8,gn_ hx,gn_ hy,aq5,hr,SL];unfold p5F;rw[hx,hy];dsimp only
  cases lt x y<;>rfl) (by
  intro i;unfold j7;dsimp only;rw[aq9 m0,aq7]) fuel lo hi (aro _) hlh (aro _) (by unfold fuel;omega) (.inl rfl) (.inl rfl)
 refine⟨s,hs,s1,s2,?_,?_⟩
 ·rcases s3 with e|e
  ·exact .inl e
  ·by_cases VU:s=lo
   ·exact .inl VU
   ·refine .inr ?_
    obtain⟨x,hx⟩:=gol_ (l:=D) (i:=s-1) m0;obtain⟨y,hy⟩:=gol_ (l:=D) (i:=(a+b)/2+m-s) m0;unfold p5F at e;rw[show(a+b)/2+m-1-(s-1)=(a+b)/2+m-s by omega,hy,hx]at e;exact⟨x,y,hx,hy,by simpa using e⟩
 ·by_cases VH:s=hi
  ·exact .inl VH
  ·rcases s4 with e|e
   ·exact .inl e
   ·refine .inr ?_
    obtain⟨x,hx⟩:=gol_ (l:=D) (i:=(a+b)/2+m-1-s) m0;obtain⟨y,hy⟩:=gol_ (l:=D) (i:=s) m0;unfold p5F at e;rw[hx,hy]at e;exact⟨x,y,hx,hy,by simpa using e⟩
theorem A8 (h:xG lt S)(hc:l9 cmp lt S){n:Nat}(PG:n<=1000000000):∀ (q:Nat) (P A B Q:List α),A.length+B.length<=q->0<A.length->0<B.length->(∀ z∈P++(A++(B++Q)),S z)->dI lt A->dI lt B->(P++(A++(B++Q))).length=n ->
  ∃ M,CW q n (P++(A++(B++Q))) (P.length:Int) ((P.length+A.length:Nat):Int) ((P.length+A.length+B.length:Nat):Int) cmp=some (P++(M++Q))/\dI lt M/\M.Perm (A++B)
 |0,P,A,B,Q,hq,hA,hB,_,_,_,_=>by omega
 |q+1,P,A,B,Q,hq,hA,hB,hS,aA,aB,hn=>by
  have P5:=hn;simp only[ard]at P5;have sA:∀ z∈A,S z:=fun z hz=>hS z (by simp[hz])
  have sB:∀ z∈B,S z:=fun z hz=>hS z (by simp[hz])
  show ∃ M,rk (CW q) n (P++(A++(B++Q))) (P.length:Int) ((P.length+A.length:Nat):Int) ((P.length+A.length+B.length:Nat):Int) cmp=some (P++(M++Q))/\_;unfold rk;rw[wrS (P.length+A.length) P.length m0 m0,wrS (P.length+A.length+B.length) (P.length+A.length) m0 m0,show P.length+A.length-P.length=A.length by omega,show P.length+A.length+B.length-(P.length+A.length)=B.length by omega];by_cases c1:A.length=1
  ·obtain⟨x,rfl⟩:∃ x,A=[x]:=match A,c1 with|[x],_=>⟨x,rfl⟩
   rw[aq_ (show(([x]:List α).length:Int)=1 from rfl),aq8];obtain⟨M,k1,k2,k3⟩:=aj8 h hc PG (P:=P) (Q:=Q) (sA x m5) sB aB hn;exact⟨M,k1,k2,k3⟩
  ·rw[aq9 (show ¬ (A.length:Int)=1 by omega),aq7]
   by_cases c2:B.length=1
   ·obtain⟨x,rfl⟩:∃ x,B=[x]:=match B,c2 with|[x],_=>⟨x,rfl⟩
    rw[aq_ (show(([x]:List α).length:Int)=1 from rfl),aq8];obtain⟨M,k1,k2,k3⟩:=alh h hc PG (P:=P) (Q:=Q) (sB x m5) sA aA hn;exact⟨M,k1,k2,k3⟩
   ·rw[aq9 (show ¬ (B.length:Int)=1 by omega),aq7,yy m0]
    have hD:(P++(A++(B++Q))).length=n:=hn;have gA:∀ i y,A[i]?=some y->(P++(A++(B++Q)))[P.length+i]?=some y:=by
     intro i y hy;have hi:=(aq6.1 hy).1;rw[arc m0,show P.length+i-P.length=i by omega,arl hi];exact hy
    have gB:∀ i y,B[i]?=some y->(P++(A++(B++Q)))[P.length+A.length+i]?=some y:=by
     intro i y hy;have hi:=(aq6.1 hy).1;rw[arc m0,arc m0,show P.length+A.length+i-P.length-A.length=i by omega,arl hi];exact hy
    generalize Wg:(P.length+(P.length+A.length+B.length))/2=mid

    have key:∃ s:Nat,((bif decide (((mid:Nat):Int)<((P.length+A.length:Nat):Int))then(ao (j7 (P++(A++(B++Q))) (P.length:Int) ((P.length+A.length:Nat):Int) ((P.length+A.length+B.length:Nat):Int) cmp n) fuel ((i64.wrap ((i64.wrap (((mid:Nat):Int)+((P.length+A.length:Nat):Int)))-((P.length+A.length+B.length:Nat):Int))),((mid:Nat):Int))).bind (kn (P++(A++(B++Q))) (P.length:Int) ((P.length+A.length:Nat):Int) ((P.length+A.length+B.length:Nat):Int) cmp n (CW q))else
      (ao (xn (P++(A++(B++Q))) (P.length:Int) ((P.length+A.length:Nat):Int) ((P.length+A.length+B.length:Nat):Int) cmp n) fuel ((P.length:Int),((P.length+A.length:Nat):Int))).bind (sX (P++(A++(B++Q))) (P.length:Int) ((P.length+A.length:Nat):Int) ((P.length+A.length+B.length:Nat):Int) cmp n (CW q))))=kn (P++(A++(B++Q))) (P.length:Int) ((P.length+A.length:Nat):Int) ((P.length+A.length+B.length:Nat):Int) cmp n (CW q) (.inl ((s:Int),(s:Int))) /\
      P.length<=s/\s<=P.length+A.length/\P.length+A.length<=mid+(P.length+A.length)-s/\mid+(P.length+A.length)-s<=P.length+A.length+B.length/\s<=mid+(P.length+A.length) /\
      (s=P.length\/mid+(P.length+A.length)-s=P.length+A.length+B.length \/ ∃ x y,(P++(A++(B++Q)))[s-1]?=some x/\(P++(A++(B++Q)))[mid+(P.length+A.length)-s]?=some y/\lt y x=false) /\
      (mid+(P.length+A.length)-s=P.length+A.length\/s=P.length+A.length \/ ∃ x y,(P++(A++(B++Q)))[mid+(P.length+A.length)-1-s]?=some x/\(P++(A++(B++Q)))[s]?=some y/\lt x y=true):=by
     by_cases hm:mid<P.length+A.length
     ·rw[aq_ (show((mid:Nat):Int)<((P.length+A.length:Nat):Int)by omega),aq8,wrA mid (P.length+A.length) m0,wrS (mid+(P.length+A.length)) (P.length+A.length+B.length) m0 m0]
      obtain⟨s,hs,s1,s2,s3,s4⟩:=aef h hc PG hD hS (a:=P.length) (m:=P.length+A.length) (b:=P.length+A.length+B.length) (lo:=mid+(P.length+A.length)-(P.length+A.length+B.length)) (hi:=mid) m0 m0 m0 m0 m0 m0 m0 m0;rw[hs,aq5];rw[Wg]at s3 s4;refine⟨s,rfl,m0,m0,m0,m0,m0,?_,?_⟩
      ·rcases s3 with e|e
       ·exact .inr (.inl m0)
       ·exact .inr (.inr e)
      ·rcases s4 with e|e
       ·exact .inl m0
       ·exact .inr (.inr e)
     ·rw[aq9 (show ¬ ((mid:Nat):Int)<((P.length+A.length:Nat):Int)by omega),aq7,aoK,apc]
      obtain⟨s,hs,s1,s2,s3,s4⟩:=aef h hc PG hD hS (a:=P.length) (m:=P.length+A.length) (b:=P.length+A.length+B.length) (lo:=P.length) (hi:=P.length+A.length) m0 m0 m0 m0 m0 m0 m0 m0;rw[hs,aq5];rw[Wg]at s3 s4;refine⟨s,rfl,m0,m0,m0,m0,m0,?_,?_⟩
      ·rcases s3 with e|e
       ·exact .inl e
       ·exact .inr (.inr e)
      ·rcases s4 with e|e
       ·exact .inr (.inl e)
       ·exact .inr (.inr e)
    obtain⟨s,hk,s1,s2,s3,s4,s4b,s5,s6⟩:=key;rw[hk,ag8,yy m0,Wg,wrA mid (P.length+A.length) m0,wrS (mid+(P.length+A.length)) s s4b m0];obtain⟨A1,A2,rfl,Yf⟩:=rY (l:=A) (s:=s-P.length) m0;obtain⟨B1,B2,rfl,Ye⟩:=rY (l:=B) (s:=mid+(P.length+(A1++A2).length)-s-(P.length+(A1++A2).length)) m0;simp only[ard]at hk s1 s2 s3 s4 s4b s5 s6 hA hB hq c1 c2 Wg Ye P5 ⊢;have eS:s=P.length+A1.length:=m0
    have eE:mid+(P.length+(A1.length+A2.length))-s=P.length+(A1.length+A2.length)+B1.length:=m0
    have eM:mid=P.length+A1.length+B1.length:=m0

    have h1:A1=[]\/B2=[] \/ ∃ A' x y B',A1=A'++[x]/\B2=y::B'/\lt y x=false:=by
     by_cases z1:0<A1.length
     ·by_cases z2:0<B2.length
      ·obtain⟨A',x,rfl⟩:=Bt z1
       obtain⟨y,B',rfl⟩:=AY z2;refine .inr (.inr ⟨A',x,y,B',rfl,rfl,?_⟩);simp only[ard,arv,arE]at *;rcases s5 with e|e|⟨x',y',e1,e2,e3⟩
       ·omega
       ·omega
       ·have g1:=gA A'.length x m5
        have g2:=gB B1.length y m5;rw[show P.length+A'.length=s-1 by omega,e1]at g1
        try simp only[ard,arv,arE]at g2
        rw[show P.length+(A'.length+(0+1)+A2.length)+B1.length=mid+(P.length+(A'.length+(0+1)+A2.length))-s by omega,e2]at g2;rw[<- arH g1,<- arH g2];exact e3
      ·exact .inr (.inl (arL.1 m0))
     ·exact .inl (arL.1 m0)
    have h2:B1=[]\/A2=[] \/ ∃ A' x y B',B1=A'++[x]/\A2=y::B'/\lt y x=false:=by
     by_cases z1:0<B1.length
     ·by_cases z2:0<A2.length
      ·obtain⟨B',x,rfl⟩:=Bt z1
       obtain⟨y,A',rfl⟩:=AY z2;refine .inr (.inr ⟨B',x,y,A',rfl,rfl,?_⟩);have sx:=sB x m5;have sy:=sA y m5;simp only[ard,arv,arE]at *;rcases s6 with e|e|⟨x',y',e1,e2,e3⟩
       ·omega
       ·omega
       ·have g1:=gB B'.length x m5
        have g2:=gA A1.length y m5
        try simp only[ard,arv,arE]at g1
        rw[show P.length+(A1.length+(A'.length+1))+B'.length=mid+(P.length+(A1.length+(A'.length+1)))-1-s by omega,e1]at g1;rw[<- eS,e2]at g2;rw[arH g1,arH g2]at e3;exact h.le_of sx sy e3
      ·exact .inr (.inl (arL.1 m0))
     ·exact .inl (arL.1 m0)
    have pA:=List.pairwise_append.1 aA;have pB:=List.pairwise_append.1 aB

    unfold Jv;rw[eE,eS,eM];have r1:(bif decide (((P.length+A1.length:Nat):Int)<((P.length+(A1.length+A2.length):Nat):Int))&&decide (((P.length+(A1.length+A2.length):Nat):Int)<((P.length+(A1.length+A2.length)+B1.length:Nat):Int))then np n (P++(A1++A2++(B1++B2++Q))) ((P.length+A1.length:Nat):Int) ((P.length+(A1.length+A2.length):Nat):Int) ((P.length+(A1.length+A2.length)+B1.length:Nat):Int) cmp else some (P++(A1++A2++(B1++B2++Q))))=some (P++(A1++(B1++(A2++(B2++Q))))):=by
     have e0:P++(A1++A2++(B1++B2++Q))=(P++A1)++(A2++(B1++(B2++Q))):=by simp
     by_cases z1:0<A2.length
     ·by_cases z2:0<B1.length
      ·rw[aq_ m0,aq_ m0,Bool.and_self,aq8]
       have hr:=aaS PG (P:=P++A1) (A:=A2) (B:=B1) (Q:=B2++Q) cmp z1 z2 (by rw[<- e0];exact hn);rw[e0];simp only[ard]at hr;rw[show P.length+(A1.length+A2.length)=P.length+A1.length+A2.length by omega,hr];simp
      ·have:B1=[]:=arL.1 m0
       subst this;rw[show decide (((P.length+(A1.length+A2.length):Nat):Int)<((P.length+(A1.length+A2.length)+([]:List α).length:Nat):Int))=false from aq9 m5,Bool.and_false,aq7];simp
     ·have:A2=[]:=arL.1 m0
      subst this;rw[show decide (((P.length+A1.length:Nat):Int)<((P.length+(A1.length+([]:List α).length):Nat):Int))=false from aq9 m5,Bool.false_and,aq7];simp
    rw[r1,aq5];have r2:∃ M1,(bif decide ((P.length:Int)<((P.length+A1.length:Nat):Int))&&decide (((P.length+A1.length:Nat):Int)<((P.length+A1.length+B1.length:Nat):Int))then CW q n (P++(A1++(B1++(A2++(B2++Q))))) (P.length:Int) ((P.length+A1.length:Nat):Int) ((P.length+A1.length+B1.length:Nat):Int) cmp else some (P++(A1++(B1++(A2++(B2++Q))))))=some (P++(M1++(A2++(B2++Q))))/\dI lt M1/\M1.Perm (A1++B1):=by
     by_cases z1:0<A1.length
     ·by_cases z2:0<B1.length
      ·rw[aq_ m0,aq_ m0,Bool.and_self,aq8]
       exact A8 h hc PG q P A1 B1 (A2++(B2++Q)) m0 z1 z2 (fun z hz=>hS z (by simp only[arB]at hz ⊢;rcases hz with hz|hz|hz|hz|hz|hz<;>simp[hz])) pA.1 pB.1 (by rw[<- hn];simp only[ard];omega)
      ·have:B1=[]:=arL.1 m0
       subst this;rw[show decide (((P.length+A1.length:Nat):Int)<((P.length+A1.length+([]:List α).length:Nat):Int))=false from aq9 m5,Bool.and_false,aq7];exact⟨A1,m5,pA.1,m5⟩
     ·have:A1=[]:=arL.1 m0
      subst this;rw[show decide ((P.length:Int)<((P.length+([]:List α).length:Nat):Int))=false from aq9 m5,Bool.false_and,aq7];exact⟨B1,m5,pB.1,m5⟩
    obtain⟨M1,r2,m1,p1⟩:=r2;rw[r2,aq5];have hM1:M1.length=A1.length+B1.length:=by rw[p1.length_eq,ard]
    have r3:∃ M2,(bif decide (((P.length+A1.length+B1.length:Nat):Int)<((P.length+(A1.length+A2.length)+B1.length:Nat):Int))&&decide (((P.length+(A1.length+A2.length)+B1.length:Nat):Int)<((P.length+(A1.length+A2.length)+(B1.length+B2.length):Nat):Int))then CW q n (P++(M1++(A2++(B2++Q)))) ((P.length+A1.length+B1.length:Nat):Int) ((P.length+(A1.length+A2.length)+B1.length:Nat):Int) ((P.length+(A1.length+A2.length)+(B1.length+B2.length):Nat):Int) cmp else some (P++(M1++(A2++(B2++Q)))))=some (P++(M1++(M2++Q)))/\dI lt M2/\M2.Perm (A2++B2):=by
     by_cases z1:0<A2.length
     ·by_cases z2:0<B2.length
      ·rw[aq_ m0,aq_ m0,Bool.and_self,aq8]
       obtain⟨M2,k1,k2,k3⟩:=A8 h hc PG q (P++M1) A2 B2 Q m0 z1 z2 (fun z hz=>by
        simp only[arB]at hz;rcases hz with(hz|hz)|hz|hz|hz
        ·exact hS z (by simp[hz])
        ·have:=p1.mem_iff.1 hz
         simp only[arB]at this;rcases this with hz|hz<;>exact hS z (by simp[hz])
        ·exact hS z (by simp[hz])
        ·exact hS z (by simp[hz])
        ·exact hS z (by simp[hz])) pA.2.1 pB.2.1 (by rw[<- hn];simp only[ard];omega)
       refine⟨M2,?_,k2,k3⟩;simp only[ard,hM1]at k1;rw[show P.length+A1.length+B1.length=P.length+(A1.length+B1.length)by omega,show P.length+(A1.length+A2.length)+B1.length=P.length+(A1.length+B1.length)+A2.length by omega,show P.length+(A1.length+A2.length)+(B1.length+B2.length)=P.length+(A1.length+B1.length)+A2.length+B2.length by omega];have e0:P++(M1++(A2++(B2++Q)))=(P++M1)++(A2++(B2++Q)):=by simp
       rw[e0,k1];simp
      ·have:B2=[]:=arL.1 m0
       subst this;rw[show decide (((P.length+(A1.length+A2.length)+B1.length:Nat):Int)<((P.length+(A1.length+A2.length)+(B1.length+([]:List α).length):Nat):Int))=false from aq9 m5,Bool.and_false,aq7];exact⟨A2,m5,pA.2.1,m5⟩
     ·have:A2=[]:=arL.1 m0
      subst this;rw[show decide (((P.length+A1.length+B1.length:Nat):Int)<((P.length+(A1.length+([]:List α).length)+B1.length:Nat):Int))=false from aq9 m5,Bool.false_and,aq7];exact⟨B2,m5,pB.2.1,m5⟩
    obtain⟨M2,r3,m2,p2⟩:=r3;rw[r3];refine⟨M1++M2,m5,abb h (fun z hz=>?_) aA aB h1 h2 m1 m2 p1 p2,MS p1 p2⟩;simp only[arB]at hz;rcases hz with(hz|hz)|hz|hz<;>exact hS z (by simp[hz])
end
section
variable {α:Type} {lt:α->α->Bool} {S:α->Prop} {cmp:α->α->Option Int}
inductive Rn (lt:α->α->Bool)(bs:Nat):List α->Prop
 |last {A:List α}:A.length<=bs->dI lt A->Rn lt bs A
 |cons {A R:List α}:A.length=bs->dI lt A->Rn lt bs R->Rn lt bs (A++R)
inductive Fu (lt:α->α->Bool)(bs:Nat):List α->Prop
 |nil:Fu lt bs []
 |snoc {P A:List α}:Fu lt bs P->A.length=bs->dI lt A->Fu lt bs (P++A)
theorem Fu.rn {bs:Nat}{P:List α}(h:Fu lt bs P):∀ {R:List α},Rn lt bs R->Rn lt bs (P++R):=by
 induction h with
 |nil=>intro R h;exact h
 | @snoc P A _ hl ha ih =>
  intro R h;rw[arA];exact ih (.cons hl ha h)
theorem Rn.asc {bs:Nat}{l:List α}(h:Rn lt bs l)(hb:0<bs)(hl:l.length<=bs):dI lt l:=by
 cases h with
 |last _ ha=>exact ha
 | @cons A R h1 h2 h3 =>
  have:R=[]:=arL.1 (by rw[ard]at hl;omega);subst this;rw[arJ];exact h2
theorem ac5 (h:xG lt S)(hc:l9 cmp lt S){n:Nat}(PG:n<=100000000):∀ (N:Nat) (P R:List α),Fu lt 20 P->(∀ z∈P++R,S z)->(P++R).length=n->R.length<N ->
  ∃ P' R' b,ao (iz (n:Int) cmp n) N (P++R,(P.length:Int),((P.length+20:Nat):Int))=some (.inl (P'++R',(P'.length:Int),b))/\Fu lt 20 P'/\R'.length<20/\(P'++R').Perm (P++R)
 |0,P,R,_,_,_,hN=>by omega
 |N+1,P,R,hF,hS,hn,hN=>by
  have P5:=hn;rw[ard]at P5;rw[ao];by_cases hb:P.length+20<=n
  ·obtain⟨M,R1,rfl,hM⟩:=rY (l:=R) (s:=20) m0
   rw[ard]at P5 hN;obtain⟨M',k1,k2,k3⟩:=zR h hc (n:=n) m0 (P:=P) (M:=M) (Q:=R1) (fun z hz=>hS z (by simp[hz])) hn;have hM':M'.length=20:=by rw[k3.length_eq,hM]
   have hB:iz (n:Int) cmp n (P++(M++R1),(P.length:Int),((P.length+20:Nat):Int))=some (.next ((P++M')++R1,(((P++M').length:Nat):Int),(((P++M').length+20:Nat):Int))):=by
    unfold iz;dsimp only;rw[aq_ (show((P.length+20:Nat):Int)<=(n:Int)by omega),aq8,<- hM,k1,aq5,hM,show i64.wrap (((P.length+20:Nat):Int)+20)=((P.length+20+20:Nat):Int)from wrA _ 20 m0];simp[hM']
   rw[hB];obtain⟨P',R',b,q1,q2,q3,q4⟩:=ac5 h hc PG N (P++M') R1 (.snoc hF hM' k2) (fun z hz=>by
    simp only[arB]at hz;rcases hz with(hz|hz)|hz
    ·exact hS z (by simp[hz])
    ·exact hS z (by simp[k3.mem_iff.1 hz])
    ·exact hS z (by simp[hz])) (by rw[ard,ard];omega) m0
   refine⟨P',R',b,q1,q2,q3,q4.trans ?_⟩;rw[arA];exact(k3.append_right R1).append_left P
  ·have hB:iz (n:Int) cmp n (P++R,(P.length:Int),((P.length+20:Nat):Int))=some (.exit (P++R,(P.length:Int),((P.length+20:Nat):Int))):=by
    unfold iz;dsimp only;rw[aq9 m0,aq7]
   rw[hB];exact⟨P,R,_,rfl,hF,m0,.refl _⟩
theorem ac4 (h:xG lt S)(hc:l9 cmp lt S){n bs:Nat}(PG:n<=100000000)(hb:0<bs)(Pl:bs<=n):∀ (N:Nat) (P R:List α),Fu lt (2*bs) P->Rn lt bs R->(∀ z∈P++R,S z)->(P++R).length=n->R.length<N ->
  ∃ P' R' b,ao (iy (n:Int) cmp n (bs:Int)) N (P++R,(P.length:Int),((P.length+2*bs:Nat):Int))=some (.inl (P'++R',(P'.length:Int),b))/\Fu lt (2*bs) P'/\Rn lt bs R'/\R'.length<2*bs/\(P'++R').Perm (P++R)
 |0,P,R,_,_,_,_,hN=>by omega
 |N+1,P,R,hF,hR,hS,hn,hN=>by
  have P5:=hn;rw[ard]at P5;rw[ao];by_cases hle:P.length+2*bs<=n
  ·
   obtain⟨A,B,Q,rfl,hA,hB,aA,aB,hQ⟩:∃ A B Q,R=A++(B++Q)/\A.length=bs/\B.length=bs/\dI lt A/\dI lt B/\Rn lt bs Q:=by
    cases hR with
    |last h1 _=>omega
    | @cons A R1 h1 h2 h3 =>
     rw[ard]at P5
     cases h3 with
     |last g1 g2=>exact⟨A,R1,[],by rw[arJ],h1,m0,h2,g2,.last (aru _) List.Pairwise.nil⟩
     | @cons B R2 g1 g2 g3=>exact⟨A,B,R2,rfl,h1,g1,h2,g2,g3⟩
   rw[ard,ard]at P5 hN;obtain⟨M,k1,k2,k3⟩:=A8 h hc (n:=n) m0 fuel P A B Q (by unfold fuel;omega) m0 m0 hS aA aB hn;have hM:M.length=2*bs:=by rw[k3.length_eq,ard];omega
   have hBo:iy (n:Int) cmp n (bs:Int) (P++(A++(B++Q)),(P.length:Int),((P.length+2*bs:Nat):Int))=some (.next ((P++M)++Q,(((P++M).length:Nat):Int),(((P++M).length+2*bs:Nat):Int))):=by
    unfold iy;dsimp only;rw[hA,hB,show P.length+bs+bs=P.length+2*bs by omega]at k1;rw[aq_ (show((P.length+2*bs:Nat):Int)<=(n:Int)by omega),aq8,wrA P.length bs m0,k1,aq5,show i64.wrap ((2:Int)*(bs:Int))=((2*bs:Nat):Int)by rw[dh m0];omega,wrA _ (2*bs) m0];simp[hM]
   rw[hBo];obtain⟨P',R',b,q1,q2,q3,q4,q5⟩:=ac4 h hc PG hb Pl N (P++M) Q (.snoc hF hM k2) hQ (fun z hz=>by
    simp only[arB]at hz;rcases hz with(hz|hz)|hz
    ·exact hS z (by simp[hz])
    ·have:=k3.mem_iff.1 hz;simp only[arB]at this
     rcases this with hz|hz<;>exact hS z (by simp[hz])
    ·exact hS z (by simp[hz])) (by rw[ard,ard];omega) m0
   refine⟨P',R',b,q1,q2,q3,q4,q5.trans ?_⟩;rw[arA];refine List.Perm.append_left P ?_;rw[<- arA];exact k3.append_right Q
  ·have hBo:iy (n:Int) cmp n (bs:Int) (P++R,(P.length:Int),((P.length+2*bs:Nat):Int))=some (.exit (P++R,(P.length:Int),((P.length+2*bs:Nat):Int))):=by
    unfold iy;dsimp only;rw[aq9 m0,aq7]
   rw[hBo];exact⟨P,R,_,rfl,hF,hR,m0,.refl _⟩
theorem LB (h:xG lt S)(hc:l9 cmp lt S){n bs:Nat}(PG:n<=100000000)(hb:0<bs)(Pl:bs<n){c:List α}(hR:Rn lt bs c)(hS:∀ z∈c,S z)(hn:c.length=n):∃ c',iw (n:Int) cmp n (c,(bs:Int))=some (.next (c',((2*bs:Nat):Int)))/\Rn lt (2*bs) c'/\c'.Perm c:=by
 obtain⟨P,R,b,q1,q2,q3,q4,q5⟩:=ac4 h hc PG hb m0 fuel [] c .nil hR hS hn (by unfold fuel;omega);rw[ara]at q1 q5;have hl:=q5.length_eq;rw[ard,hn]at hl;have e2:i64.wrap ((2:Int)*(bs:Int))=((2*bs:Nat):Int):=by rw[dh m0];omega
 have e3:i64.wrap ((bs:Int)*2)=((2*bs:Nat):Int):=by rw[dh m0];omega
 simp only[arE,arS]at q1;unfold iw;dsimp only;rw[aq_ (show(bs:Int)<(n:Int)by omega),aq8,e2];rw[show((0:Nat):Int)=0 from rfl]at q1;rw[q1,aq5];unfold qJ;dsimp only;rw[wrA P.length bs m0,e3];have Zq:∀ z∈P++R,S z:=fun z hz=>hS z (q5.mem_iff.1 hz)
 by_cases OZ:P.length+bs<n
 ·rw[aq_ (show((P.length+bs:Nat):Int)<(n:Int)by omega),aq8]
  obtain⟨A,B,rfl,hA,hB,aA,aB⟩:∃ A B,R=A++B/\A.length=bs/\0<B.length/\dI lt A/\dI lt B:=by
   cases q3 with
   |last h1 _=>omega
   | @cons A R1 h1 h2 h3 =>
    rw[ard]at hl q4;exact⟨A,R1,rfl,h1,m0,h2,h3.asc hb m0⟩
  rw[ard]at hl q4;obtain⟨M,k1,k2,k3⟩:=A8 h hc (n:=n) m0 fuel P A B [] (by unfold fuel;omega) m0 hB (by simpa using Zq) aA aB (by rw[arJ,ard,ard];omega);have hM:M.length=A.length+B.length:=by rw[k3.length_eq,ard]
  rw[hA,show P.length+bs+B.length=n by omega,arJ]at k1;rw[k1,aq5,arJ];exact⟨P++M,rfl,q2.rn (.last m0 k2),(k3.append_left P).trans q5⟩
 ·rw[aq9 (show ¬ ((P.length+bs:Nat):Int)<(n:Int)by omega),aq7]
  exact⟨P++R,rfl,q2.rn (.last m0 (q3.asc hb m0)),q5⟩
theorem ac3 (h:xG lt S)(hc:l9 cmp lt S){n:Nat}(PG:n<=100000000):∀ (N bs:Nat) (c:List α),0<bs->bs<=2*n+20->Rn lt bs c->(∀ z∈c,S z)->c.length=n->n-bs<N ->
  ∃ c' b,ao (iw (n:Int) cmp n) N (c,(bs:Int))=some (.inl (c',b))/\dI lt c'/\c'.Perm c
 |0,bs,c,_,_,_,_,_,hN=>by omega
 |N+1,bs,c,hb,Pl,hR,hS,hn,hN=>by
  rw[ao];by_cases OZ:bs<n
  ·obtain⟨c',k1,k2,k3⟩:=LB h hc PG hb OZ hR hS hn
   rw[k1];obtain⟨c2,b,q1,q2,q3⟩:=ac3 h hc PG N (2*bs) c' m0 m0 k2 (fun z hz=>hS z (k3.mem_iff.1 hz)) (by rw[k3.length_eq];exact hn) m0;exact⟨c2,b,q1,q2,q3.trans k3⟩
  ·have hB:iw (n:Int) cmp n (c,(bs:Int))=some (.exit (c,(bs:Int))):=by
    unfold iw;dsimp only;rw[aq9 m0,aq7]
   rw[hB];exact⟨c,_,rfl,hR.asc hb m0,.refl _⟩
theorem acd (h:xG lt S)(hc:l9 cmp lt S){n:Nat}(PG:n<=100000000){l:List α}(hS:∀ z∈l,S z)(hn:l.length=n):∃ r,wv n l (n:Int) cmp=some r/\dI lt r/\r.Perm l:=by
 obtain⟨P,R,b,q1,q2,q3,q4⟩:=ac5 h hc PG fuel [] l .nil hS hn (by unfold fuel;omega);rw[ara]at q1 q4;have hl:=q4.length_eq;rw[ard,hn]at hl;have Zq:∀ z∈P++R,S z:=fun z hz=>hS z (q4.mem_iff.1 hz)
 obtain⟨M,k1,k2,k3⟩:=zR h hc (n:=n) m0 (P:=P) (M:=R) (Q:=[]) (fun z hz=>Zq z (by simp[hz])) (by rw[arJ,ard];omega);rw[show P.length+R.length=n by omega,arJ,arJ]at k1;have hM:M.length=R.length:=k3.length_eq;obtain⟨c,b2,w1,w2,w3⟩:=ac3 h hc PG fuel 20 (P++M) m0 m0 (q2.rn (.last m0 k2)) (fun z hz=>by
  rcases arB.1 hz with hz|hz
  ·exact Zq z (by simp[hz])
  ·exact Zq z (by simp[k3.mem_iff.1 hz])) (by rw[ard];omega) (by unfold fuel;omega)
 refine⟨c,?_,w2,(w3.trans (k3.append_left P)).trans q4⟩;unfold wv;simp only[arE,arS]at q1;rw[show((0:Nat):Int)=0 from rfl,show((20:Nat):Int)=20 from rfl]at q1;rw[show((20:Nat):Int)=20 from rfl]at w1;rw[q1,aq5];unfold qE;dsimp only;rw[k1,aq5,w1];rfl
theorem aa3 (h:xG lt S)(hc:l9 cmp lt S){n:Nat}(PG:n<=100000000){l:List α}(hS:∀ z∈l,S z)(hn:l.length=n):∃ r,wI n l cmp=some r/\dI lt r/\r.Perm l:=by
 obtain⟨r,h1,h2,h3⟩:=acd h hc PG hS hn;refine⟨r,?_,h2,h3⟩;unfold wI;rw[h1];rfl
end
theorem MV {s:ByteArray}:∀ {G:List bD},eH s G=none ->∀ g∈G,s≠cL g.f.row
 |[],_,_,h=>by cases h
 |g0::G,h,g,hg=>by
  unfold eH at h;by_cases e:s=cL g0.f.row
  ·rw[if_pos e]at h;cases h
  ·rw[if_neg e]at h
   cases hr:eH s G with
   |none =>
    rcases arp.1 hg with rfl|hg
    ·exact e
    ·exact MV hr g hg
   |some j=>rw[hr]at h;cases h
theorem ajp {G:List bD}(h:G.Pairwise fun a b=>cL a.f.row≠cL b.f.row)(f:ap):(fx G f).Pairwise fun a b=>cL a.f.row≠cL b.f.row:=by
 unfold fx
 cases aw f.valid with
 |false=>exact h
 |true =>
  rw[aq8]
  cases hf:eH (cL f.row) G with
  |none =>
   show(G++[(⟨f,[f.valid]⟩:bD)]).Pairwise _;refine List.pairwise_append.2 ⟨h,m5,fun a ha b hb=>?_⟩;rw[arQ.1 hb];exact fun e=>MV hf a ha e.symm
  |some i =>
   show(match G[i]? with|some g=>G.set i (⟨g.f,g.ps++[f.valid]⟩:bD)|none=>G).Pairwise _
   cases hg:G[i]? with
   |none=>exact h
   |some g =>
    show(G.set i (⟨g.f,g.ps++[f.valid]⟩:bD)).Pairwise _;have hk:(G.set i (⟨g.f,g.ps++[f.valid]⟩:bD)).map (fun a=>cL a.f.row)=G.map fun a=>cL a.f.row:=by
     rw[List.map_set];have:(G.map fun a=>cL a.f.row)[i]?=some (cL g.f.row):=by rw[arw,hg];rfl
     apply List.ext_getElem?;intro j;by_cases e:i=j
     ·subst e
      have OZ:=(aq6.1 this).1;rw[ars OZ,this]
     ·rw[art e]
    have hp:∀ l:List bD,(l.map fun a=>cL a.f.row).Pairwise (fun a b=>a≠b)↔l.Pairwise fun a b=>cL a.f.row≠cL b.f.row:=fun l=>List.pairwise_map
    rw[<- hp,hk,hp];exact h
theorem ahx (l:List ap):(dp l).Pairwise fun a b=>cL a.f.row≠cL b.f.row:=by
 have:∀ (l:List ap) (G:List bD),(G.Pairwise fun a b=>cL a.f.row≠cL b.f.row)->(l.foldl fx G).Pairwise fun a b=>cL a.f.row≠cL b.f.row:=by
  intro l
  induction l with
  |nil=>intro G h;exact h
  |cons f l ih=>intro G h;exact ih _ (ajp h f)
 exact this l [] List.Pairwise.nil
theorem aeQ (l:List ap):((dp l).map fun g=>(⟨g.f.row,g.ps⟩:ac)).Pairwise fun a b=>a.row≠b.row:=by
 rw[List.pairwise_map];refine(ahx l).imp ?_;intro a b h e;exact h (by show cL a.f.row=cL b.f.row;rw[show a.f.row=b.f.row from e])
def amh (a b:ac):Bool:=decide (fy a b<0)
theorem aic {α:Type}{R:α->α->Prop}(hs:∀ a b,R a b->R b a):∀ {l:List α},l.Pairwise R ->∀ a∈l,∀ b∈l,a≠b->R a b
 |[],_,a,ha,_,_,_=>by cases ha
 |x::l,h,a,ha,b,hb,Ph=>by
  obtain⟨h1,h2⟩:=ase.1 h;rcases arp.1 ha with ea|ha
  ·rcases arp.1 hb with eb|hb
   ·exact absurd (ea.trans eb.symm) Ph
   ·rw[ea];exact h1 b hb
  ·rcases arp.1 hb with eb|hb
   ·rw[eb];exact hs _ _ (h1 a ha)
   ·exact aic hs h2 a ha b hb Ph
theorem ahO {X:List ac}(hd:X.Pairwise fun a b=>a.row≠b.row):xG amh (fun x=>x∈X):=by
 refine⟨fun x _=>?_,fun x y z _ _ _ h1 h2=>?_,fun x y hx hy h1 h2=>?_⟩
 ·unfold amh fy
  rw[tCr_.refl];rfl
 ·exact aq_ (tCr_.trans _ _ _ (arC h1) (arC h2))
 ·have h1:¬ bL x.row y.row<0:=of_decide_eq_false h1
  have h2:¬ bL y.row x.row<0:=of_decide_eq_false h2;have hz:bL x.row y.row=0:=by
   have:=tCr_.anti x.row y.row;have:=tCr_.anti y.row x.row;omega
  have RB:=tCr_.zero _ _ hz;refine Classical.byContradiction fun Ph=>?_
  exact aic (R:=fun a b:ac=>a.row≠b.row) (fun _ _ h e=>h e.symm) hd x hx y hy Ph RB
theorem acx (X:List ac):dI amh (lF fy X):=by
 refine(GV (c:=fy) (fun a b d h1 h2=>?_) (fun a b h=>?_) X).imp ?_
 ·have:=tCr_.anti
  by_cases e1:bL a.row b.row=0
  ·have:=tCr_.zero _ _ e1;show bL a.row d.row<=0;rw[this];exact h2
  ·by_cases e2:bL b.row d.row=0
   ·have:=tCr_.zero _ _ e2;show bL a.row d.row<=0;rw[<- this];exact h1
   ·exact Int.le_of_lt (tCr_.trans _ _ _ (show bL a.row b.row<0 by have:bL a.row b.row<=0:=h1;omega) (show bL b.row d.row<0 by have:bL b.row d.row<=0:=h2;omega))
 ·have:=tCr_.anti b.row a.row
  show bL b.row a.row<=0;have h:¬ bL a.row b.row<0:=h;have h3:=tCr_.anti a.row b.row;omega
 ·intro a b h
  have h:bL a.row b.row<=0:=h;refine aq9 ?_;show ¬ bL b.row a.row<0;have:=tCr_.anti b.row a.row;omega
theorem ahw (X:List ac)(hr:∀ s∈X,s.row.length<=4000000000000):l9 vz amh (fun x=>x∈X):=fun x y hx hy=>⟨_,afG x y (hr x hx) (hr y hy),rfl⟩
theorem agJ {X:List ac}(hd:X.Pairwise fun a b=>a.row≠b.row)(hl:X.length<=100000000)(hr:∀ s∈X,s.row.length<=4000000000000):wI X.length X vz=some (lF fy X):=by
 obtain⟨r,h1,h2,h3⟩:=aa3 (ahO hd) (ahw X hr) hl (fun z hz=>hz) rfl;rw[h1,G9 (ahO hd) (fun x hx=>h3.mem_iff.1 hx) h2 (acx X) (h3.trans (pH fy X).symm)]
theorem ad8 (v:Nat)(X:List ac):ct af 2 v X = .row v ((X.map gU).map o5) 2:=by
 unfold ct;rw[List.map_map,List.map_map];rfl
theorem aff (v:Nat){X:List ac}{n:Nat}(hn:X.length=n)(hd:X.Pairwise fun a b=>a.row≠b.row)(hl:n<=100000000)(hr:∀ s∈X,s.row.length<=4000000000000):RTz 238 [.row v ((X.map gU).map o5) 2] [.one (.sl 0 v 0 n),.one (.c (.fn 239 []))] [.row v (((lF fy X).map gU).map o5) 2] (.tup []):=by
 subst hn;have:=LI (n:=X.length) (a_x:=X) (a_cmp:=vz) (v:=v) (zr:=239) (zc:=[]) (fun y0 y1 r h=>gRowsC_ok h) (agJ hd hl hr);rw[ad8,ad8]at this;exact this
theorem ak0 {P:Program}{ti:TI}{N:Nat}{ds:List (Option Tmp)}{K:Tm->List Ob->Prop}{o:Oper}{rest:List Oper}{T:Tm}{L L':List Ob}{x y:Operand}{t tx E:TypeId}{es xs:List (List AC)}{i n k by_ d:Nat}{vx:AV}(hd:o.dst=some d)(hN:Nat.blt d N=true)(hg:ge ds T o.guard=some true)
  (ho:o.op = .call { callee := .builtin .append,args :=#[x,y],argTypes :=#[t,tx] }) (hx:look T x=some (.one (.own es i))) (hy:look T y=some vx) (hl:dD vx=some xs) (ht:ti.elem t=some E) (Py:ti.size E=some k) (hb:ti.bytes E=some by_) (hL:L[i]?=some (.spare n k))
  (hφ:(ti.elem tx).isSome/\es.length=n/\(ti.zok E=true/\0<k)/\(∀ e∈xs,e.length=k)/\(n+xs.length)*by_<=140737488355328/\n+xs.length<=140737488355328) (VN:L.set i (.spare (n+xs.length) k)=L')
  (h:aI P ti N ds K rest ((d,.one (.own (es++xs) i))::T) L'):aI P ti N ds K (o::rest) T L :=
 st_lop hd hN hg (v := .one (.own (es++xs) i)) (L':=L.set i (.spare (n+xs.length) k)) (φ:=(ti.elem tx).isSome/\k=k/\es.length=n/\(ti.zok E=true/\0<k)/\(∀ e∈xs,e.length=k)/\(n+xs.length)*by_<=140737488355328/\n+xs.length<=140737488355328)
  (by rw[ho];simp[AH,hx,hy,sC,hl,ht,Py,hb,hL]) ⟨hφ.1,rfl,hφ.2⟩ (by rw[VN];exact h)
theorem ae4 (l:List ap)(hl:l.length<=300)(h:∀ f∈l,f.row.length<=1000 /\ ∀ v∈f.row,VOK v):PTz 202 [.one (.lst (l.map aH))] (.val (.one (.lst ((l8 l).map af)))):=by
 refine pa_ cq Tryz.func202 rfl rfl Tryz.ntmps202 m5 ?_;simp only[argT,PV.av,ari,arn];obtain⟨n,hn⟩:∃ n,l.length=n:=⟨_,rfl⟩;have Zr:(((l.map aH).length:Nat):Int)=n:=by simp[hn]
 repeat' (first|refine gw_ cq aZ ?_|refine gi_ (fun hb=>?_) (fun hb=>?_)|(refine ci rfl rfl rfl rfl rfl zF ?_)|fail)
 refine cz (fun i:Nat=>[(0,.one (.c (.lst (l.map aH)))),(3,.one (.mp 0)),(4,L8 (dp (l.take i))),(11,.one (.c (.lst (l.map aH)))),(12,.one (.c (.int .i64 n))),(13,.one (.c (.int .i64 i)))]) (fun i=>Ny (dp (l.take i))) (fun i=>i<=n) (fun i=>n-i) 0 m0 (fun _ _=>aru _)
  (fm_ ⟨rfl,rfl,rfl,rfl,aU Zr,rfl,t7⟩ [] rfl ⟨t7,(by cases (dp (l.take 0))<;>first|(show 0<_;simp[Ny,rM])|skip),rF _,t7,t7,t7,t7⟩ (mj _)) ?_
 intro i hi;have Wz:=v6 (l.take i);have hgm:=CN (l.take i);rw[ar3]at Wz;by_cases OZ:i<n
 ·obtain⟨f,hx⟩:=gol_ (show i<l.length by omega)
  have Zs:=arb hx;have hN:decide ((i:Int)<n)=true:=by simp;exact OZ
  have Qa:dp (l.take (i+1))=fx (dp (l.take i)) f:=by rw[bR hx];exact NH _ _
  have Qj:=gPV_ok (i_ f.valid);have Yg:=agy f.row (h f Zs).1 (h f Zs).2;have Wh:(l.map aH)[((i:Nat):Int).toNat]?=some (aH f):=bv hx;generalize dp (l.take i)=G at Wz hgm Qa;unfold fx at Qa;obtain⟨row,lo,Qo⟩:=f;dsimp only at Qa Yg Qj;have U2:l.length<=300:=hl
  repeat' (first|refine gw_ trivial trivial ?_|refine gi_ (fun hb=>?_) (fun hb=>?_)|fail)
  refine aw_region cq _ rfl ?_
  repeat' (first|rw[hN]|(refine bB rfl rfl rfl rfl rfl rfl rfl rfl Wh ?_ ?_;· exact⟨m0,rfl⟩)|refine gw_ trivial trivial ?_|refine gi_ (fun hb=>?_) (fun hb=>?_)|fail)
  refine aw_region cq _ rfl ?_
  repeat' (first|(refine afO rfl rfl rfl rfl rfl rfl rfl ?_)|(refine bB rfl rfl rfl rfl rfl rfl rfl rfl Wh ?_ ?_;· exact⟨m0,rfl⟩)|refine gw_ trivial trivial ?_|refine gi_ (fun hb=>?_) (fun hb=>?_)|fail)
  refine aku (A:=Ny G) rfl (by simp only[ari,arn,ahh];simp only[unA,unS,if_true,List.drop_zero];rfl) ?_
  cases hv:aw ⟨lo,Qo⟩with
  |false =>
   rw[hv,aq7]at Qa;rw[hv]at Qj
   repeat' (first|rw[hN]|(refine bB rfl rfl rfl rfl rfl rfl rfl rfl Wh ?_ ?_;· exact⟨m0,rfl⟩)|refine aN rfl rfl rfl rfl Qj rfl ?_|refine aN rfl rfl rfl rfl Yg rfl ?_|refine gw_ cq aZ ?_|refine gi_ (fun hb=>?_) (fun hb=>?_)|fail)
   exact⟨i+1,m0,m0,by rw[Qa];exact fm_ ⟨rfl,rfl,rfl,rfl,rfl,aU (a7 m0 m0),t7⟩ [.dead] rfl ⟨t7,(by cases G<;>first|(show 0<_;simp[Ny,rM])),rF _,t7,t7,t7,t7⟩ (mj _)⟩
  |true =>
   rw[hv,aq8]at Qa;rw[hv]at Qj
   cases hf:eH (cL row) G with
   |some j =>
    have WI:=Ey hf;obtain⟨g,hg⟩:=gol_ WI;rw[hf]at Qa;dsimp only at Qa;rw[hg]at Qa;dsimp only at Qa;have Uu:G≠[]:=by intro e;rw[e]at WI;simp at WI
    have XH:=(hgm g (arb hg)).1;rw[ar3]at XH;rw[pJ Uu,sY Uu];have ej:0+((j:Nat):Int).toNat=j:=by simp
    have hgj:(eY 0 G)[0+((j:Nat):Int).toNat]?=some [.c (cl g.f.row),.own (uv g.ps) (4+3*(0+j))]:=by rw[ej];exact Of G 0 j g hg
    have hLl:=mJ Uu;have hLj:(rM G++[Ob.dead])[4+3*(0+j)]?=some (.spare g.ps.length 2):=by
     rw[arl m0];rw[show 4+3*(0+j)=3*j+1+1+1+1 by omega];exact alJ hg
    have Rz:(rM G++[Ob.dead]).set (4+3*(0+j)) (.spare (g.ps.length+1) 2) = .map (oG 0 G) :: .dead::AW G :: .row (194+65536*G.length) (eY 0 G) 2::(vg (G.set j ⟨g.f,g.ps++[⟨lo,Qo⟩]⟩)++[.dead]):=by
     rw[List.set_append_left _ _ m0];have e6:g.ps.length+1=(g.ps++[(⟨lo,Qo⟩:ax)]).length:=by simp
     rw[e6,show 4+3*(0+j)=3*j+1+1+1+1 by omega,<- akf (g.ps++[(⟨lo,Qo⟩:ax)]) hg];rfl
    have Ui:(uv g.ps).length=g.ps.length:=by simp[uv]
    have XI:(.map (oG 0 G) :: .dead::AW G :: .row (194+65536*G.length) (eY 0 G) 2::(vg (G.set j ⟨g.f,g.ps++[⟨lo,Qo⟩]⟩)++[Ob.dead])).set 3 (.row (194+65536*G.length) ((eY 0 G).set (0+((j:Nat):Int).toNat) [.c (cl g.f.row),.own (uv g.ps++[[.int .i64 lo,.int .i64 Qo]]) (4+3*(0+j))]) 2)=rM (G.set j ⟨g.f,g.ps++[⟨lo,Qo⟩]⟩)++[.dead]:=by
     have e7:uv g.ps++[[.int .i64 lo,.int .i64 Qo]]=uv (g.ps++[⟨lo,Qo⟩]):=by simp[uv,aO]
     rw[ej,e7,aam G 0 j g _ hg];unfold rM;rw[akq _ hg,alk hg,List.length_set];rfl
    have Vk:G.set j ⟨g.f,g.ps++[⟨lo,Qo⟩]⟩≠[]:=by intro e;have:=congrArg List.length e;simp at this;exact Uu this
    repeat' (first|(refine lY rfl rfl rfl rfl rfl rfl rfl (e:=[.c (cl g.f.row),.own (uv g.ps) (4+3*(0+j))]) (by exact hgj) rfl ?_)|(refine ak0 (k:=2) (by_:=16) rfl rfl rfl rfl rfl rfl rfl rfl rfl rfl (by exact hLj) ⟨rfl,Ui,⟨rfl,by decide⟩,by intro e he;simp at he;subst he;rfl,by show(_+1)*16<=_;omega,by show _+1<=_;omega⟩ (by exact Rz) ?_)|(refine nK rfl rfl rfl rfl rfl rfl (e:=[.c (cl g.f.row),.own (uv g.ps) (4+3*(0+j))]) (by exact hgj) ⟨aro _,rfl⟩ (by exact XI) ?_)|refine aN rfl rfl rfl rfl Qj rfl ?_|refine aN rfl rfl rfl rfl Yg rfl ?_|refine gw_ cq aZ ?_|refine gi_ (fun hb=>?_) (fun hb=>?_)|(refine dM rfl rfl rfl rfl rfl (ajP cq hf rfl rfl rfl rfl rfl rfl) ?_)|fail)
    exact⟨i+1,m0,m0,by rw[Qa,pJ Vk,sY Vk,List.length_set];exact fm_ ⟨rfl,rfl,rfl,rfl,rfl,aU (a7 m0 m0),t7⟩ [.dead] rfl ⟨t7,(by show 0<_;rw[mJ Vk];omega),(by show 3<_;rw[mJ Vk,List.length_set];omega),t7,t7,t7,t7⟩ (by rw[<- pJ Vk];exact mj _)⟩
   |none =>
    rw[hf]at Qa;dsimp only at Qa
    cases Yh:G with
    |nil =>
     rw[Yh]at hf Qa
     repeat' (first|(refine JX rfl rfl rfl rfl (E_ (G:=[]) ⟨⟨row,⟨lo,Qo⟩⟩,[⟨lo,Qo⟩]⟩ cq hf rfl rfl rfl rfl rfl rfl rfl) ?_)|(refine ci rfl rfl rfl rfl rfl (EJ (k:=2) (E:=194) (cs:=[.c (cl row),.emp]) cq rfl rfl m9 m9 rfl m9 rfl rfl) ?_)|(refine ci rfl rfl rfl rfl rfl (NG (E:=194) (k:=2) (by_:=48) (xs:=[[.c (cl row),.emp]]) cq rfl rfl rfl ⟨rfl,_,rfl,arh rfl⟩ rfl m9 rfl rfl rfl m9 (arh rfl) (arh rfl) (arh rfl)) ?_)|(refine lY rfl rfl rfl rfl rfl rfl rfl (e:=[.c (cl row),.emp]) r5 rfl ?_)|(refine nK rfl rfl rfl rfl rfl rfl (e:=[.c (cl row),.emp]) r5 ⟨aro _,rfl⟩ rfl ?_)|refine aN rfl rfl rfl rfl Qj rfl ?_|refine aN rfl rfl rfl rfl Yg rfl ?_|refine gw_ cq aZ ?_|refine gi_ (fun hb=>?_) (fun hb=>?_)|(refine dM rfl rfl rfl rfl rfl (FV (G:=[]) cq hf rfl rfl rfl rfl rfl rfl) ?_)|fail)
     exact⟨i+1,m0,m0,by rw[Qa];exact fm_ ⟨rfl,rfl,rfl,rfl,rfl,aU (a7 m0 m0),t7⟩ [] rfl ⟨t7,(by show 0<5;omega),rF _,t7,t7,t7,t7⟩ (mj _)⟩
    |cons g0 G0 =>
     have Uu:G≠[]:=by rw[Yh];simp
     rw[<- Yh];rw[pJ Uu,sY Uu];have htl:=adQ Uu;obtain⟨gn,WM⟩:∃ gn:bD,gn=⟨⟨row,⟨lo,Qo⟩⟩,[⟨lo,Qo⟩]⟩:=⟨_,rfl⟩;have hgk:cL gn.f.row=cL row:=by rw[WM]
     rw[<- WM]at Qa;have hgbe:gbG gn=Ob.row (194+65536) [[SV.c (cl row),SV.emp]] 2:=by rw[WM];rfl
     have hLa:(Ob.map (oG 0 (G++[gn]))::Ob.dead::AW G::Ob.row (194+65536*G.length) (eY 0 G) 2::(vg G++[Ob.dead])).length=3+3*G.length:=by simp;omega
     have hq:((Ob.map (oG 0 (G++[gn]))::Ob.dead::AW G::Ob.row (194+65536*G.length) (eY 0 G) 2::(vg G++[Ob.dead]))++[Ob.row (194+65536) [[SV.c (cl row),SV.emp]] 2])[3+3*G.length]?=some (Ob.row (194+65536) [[SV.c (cl row),SV.emp]] 2):=by
      rw[arc (by rw[hLa];exact aro _),hLa,Nat.sub_self];rfl
     have SI:NJ ((Ob.map (oG 0 (G++[gn]))::Ob.dead::AW G::Ob.row (194+65536*G.length) (eY 0 G) 2::(vg G++[Ob.dead]))++[Ob.row (194+65536) [[SV.c (cl row),SV.emp]] 2]) (.one (.sl (3+3*G.length) (194+65536) 0 1))=some [[SV.c (cl row),SV.emp]]:=by
      simp only[NJ,hq];rfl
     have hsok:BP aoP ((Ob.map (oG 0 (G++[gn]))::Ob.dead::AW G::Ob.row (194+65536*G.length) (eY 0 G) 2::(vg G++[Ob.dead]))++[Ob.row (194+65536) [[SV.c (cl row),SV.emp]] 2]) 2 191 (.one (.sl (3+3*G.length) (194+65536) 0 1)):=⟨rfl,[[SV.c (cl row),SV.emp]],hq,aro _⟩;have hL2:((Ob.map (oG 0 (G++[gn]))::Ob.dead::AW G::Ob.row (194+65536*G.length) (eY 0 G) 2::(vg G++[Ob.dead]))++[Ob.row (194+65536) [[SV.c (cl row),SV.emp]] 2]).set 3 (Ob.row (194+65536*G.length+65536) (eY 0 G++[[SV.c (cl row),SV.emp]]) 2)=Ob.map (oG 0 (G++[gn]))::Ob.dead::AW G::Ob.row (194+65536*G.length+65536) (eY 0 G++[[SV.c (cl row),SV.emp]]) 2::(vg G++[Ob.dead,Ob.row (194+65536) [[SV.c (cl row),SV.emp]] 2]):=by simp
     have hL2l:(Ob.map (oG 0 (G++[gn]))::Ob.dead::AW G::Ob.row (194+65536*G.length+65536) (eY 0 G++[[SV.c (cl row),SV.emp]]) 2::(vg G++[Ob.dead,Ob.row (194+65536) [[SV.c (cl row),SV.emp]] 2])).length=4+3*G.length:=by simp;omega
     have eG:0+((G.length:Nat):Int).toNat=G.length:=by simp
     have hgG:(eY 0 G++[[SV.c (cl row),.emp]])[0+((G.length:Nat):Int).toNat]?=some [SV.c (cl row),SV.emp]:=by
      rw[eG,arc (by rw[om];exact aro _),om];simp
     have e10:(G++[gn]).length=G.length+1:=by simp
     have e9:194+65536*(G++[gn]).length=194+65536*G.length+65536:=by rw[e10];omega
     have Vk:G++[gn]≠[]:=by simp
     have XI:((Ob.map (oG 0 (G++[gn]))::Ob.dead::AW G::Ob.row (194+65536*G.length+65536) (eY 0 G++[[SV.c (cl row),SV.emp]]) 2::(vg G++[Ob.dead,Ob.row (194+65536) [[SV.c (cl row),SV.emp]] 2]))++[Ob.spare 1 2]).set 3 (Ob.row (194+65536*G.length+65536) ((eY 0 G++[[SV.c (cl row),.emp]]).set (0+((G.length:Nat):Int).toNat) [SV.c (cl row),SV.own [[.int .i64 lo,.int .i64 Qo]] (Ob.map (oG 0 (G++[gn]))::Ob.dead::AW G::Ob.row (194+65536*G.length+65536) (eY 0 G++[[SV.c (cl row),SV.emp]]) 2::(vg G++[Ob.dead,Ob.row (194+65536) [[SV.c (cl row),SV.emp]] 2])).length]) 2)=rM (G++[gn]):=by
      have e8:(eY 0 G++[[SV.c (cl row),.emp]]).set G.length [SV.c (cl row),SV.own [[.int .i64 lo,.int .i64 Qo]] (4+3*G.length)]=eY 0 (G++[gn]):=by
       rw[IB,List.set_append_right _ _ (by rw[om];exact aro _),om,WM];simp[uv,aO]
      rw[eG,hL2l,e8];unfold rM;rw[aih gn Uu,aji gn Uu,e9,hgbe,WM];simp[bxG]
     repeat' (first|refine aN rfl rfl rfl rfl Qj rfl ?_|refine aN rfl rfl rfl rfl Yg rfl ?_|refine gw_ cq aZ ?_|refine gi_ (fun hb=>?_) (fun hb=>?_)|(refine dM rfl rfl rfl rfl rfl (FV (G:=G) cq hf rfl rfl rfl rfl rfl rfl) ?_)|fail)
     refine JX (L':=(Ob.map (oG 0 (G++[gn]))::Ob.dead::AW G::Ob.row (194+65536*G.length) (eY 0 G) 2::(vg G++[Ob.dead]))) rfl rfl rfl rfl (E_ (G:=G) (id:=0) gn cq hf hgk rfl rfl rfl rfl rfl rfl) ?_
     repeat' (first|(refine JX (L':=(Ob.map (oG 0 (G++[gn]))::Ob.dead::AW G::Ob.row (194+65536*G.length) (eY 0 G) 2::(vg G++[Ob.dead]))) rfl rfl rfl rfl (E_ (G:=G) (id:=0) gn cq hf hgk rfl rfl rfl rfl rfl rfl) ?_)|(refine ci (v := .one (.sl (3+3*G.length) (194+65536) 0 1)) (L':=(Ob.map (oG 0 (G++[gn]))::Ob.dead::AW G::Ob.row (194+65536*G.length) (eY 0 G) 2::(vg G++[Ob.dead]))++[Ob.row (194+65536) [[SV.c (cl row),SV.emp]] 2]) rfl rfl rfl rfl rfl (by rw[<- hLa];exact EJ (k:=2) (E:=194) (cs:=[SV.c (cl row),SV.emp]) cq rfl rfl m9 m9 rfl m9 rfl rfl) ?_)|(refine ci (v := .one (.sl 3 (194+65536*G.length+65536) 0 (G.length+1))) (L':=(Ob.map (oG 0 (G++[gn]))::Ob.dead::AW G::Ob.row (194+65536*G.length+65536) (eY 0 G++[[SV.c (cl row),SV.emp]]) 2::(vg G++[Ob.dead,Ob.row (194+65536) [[SV.c (cl row),SV.emp]] 2]))) rfl rfl rfl rfl rfl (by rw[<- hL2];exact eh (k:=2) (by_:=48) (xs:=[[SV.c (cl row),SV.emp]]) cq rfl rfl rfl SI hsok rfl (by show(194+65536*G.length)%65536=194;omega) rfl rfl rfl m9 (om G 0) (by show(_+1)*48<=_;omega) (by show _+1<=_;omega)) ?_)|(refine lY rfl rfl rfl rfl rfl rfl rfl (e:=[SV.c (cl row),SV.emp]) (by exact hgG) rfl ?_)|(refine nK rfl rfl rfl rfl rfl rfl (e:=[SV.c (cl row),SV.emp]) (by exact hgG) ⟨aro _,rfl⟩ (by exact XI) ?_)|refine aN rfl rfl rfl rfl Qj rfl ?_|refine aN rfl rfl rfl rfl Yg rfl ?_|refine gw_ cq aZ ?_|refine gi_ (fun hb=>?_) (fun hb=>?_)|(refine dM rfl rfl rfl rfl rfl (FV (G:=G) cq hf rfl rfl rfl rfl rfl rfl) ?_)|fail)
     exact⟨i+1,m0,m0,by rw[Qa,pJ Vk,sY Vk,e9,e10];exact fm_ ⟨rfl,rfl,rfl,rfl,rfl,aU (a7 m0 m0),t7⟩ [] (arJ _).symm ⟨t7,(by show 0<_;rw[mJ Vk];omega),(by show 3<_;rw[mJ Vk,e10];omega),t7,t7,t7,t7⟩ (by rw[<- pJ Vk];exact mj _)⟩
 ·have htk:l.take i=l:=arP m0
  have hN:decide ((i:Int)<n)=false:=by simp;omega
  rw[htk]at Wz hgm ⊢;have XH:=v6 l;have hrP:l8 l=lF fy ((dp l).map fun g=>(⟨g.f.row,g.ps⟩:ac)):=rfl;rw[hrP];clear hrP;have Zt:∀ g∈dp l,g.f.row.length<=1000:=fun g hg=>(h _ (CN l g hg).2.1).1
  have XJ:=aeQ l;generalize dp l=G at Wz hgm XH Zt XJ ⊢
  repeat' (first|refine gw_ trivial trivial ?_|refine gi_ (fun hb=>?_) (fun hb=>?_)|fail)
  refine aw_region cq _ rfl ?_
  repeat' (first|rw[hN]|(refine bB rfl rfl rfl rfl rfl rfl rfl rfl Wh ?_ ?_;· exact⟨m0,rfl⟩)|refine gw_ trivial trivial ?_|refine gi_ (fun hb=>?_) (fun hb=>?_)|fail)
  cases Yh:G with
  |nil =>
   have e0:(lF fy (([]:List bD).map fun g=>(⟨g.f.row,g.ps⟩:ac))).map af=[]:=rfl;rw[e0]
   repeat' (first|refine aN rfl rfl rfl rfl acJ rfl ?_|refine gw_ cq aZ ?_|refine gi_ (fun hb=>?_) (fun hb=>?_)|fail)
   exact a6 (bj rfl (by trivial) rfl)
  |cons g0 G0 =>
   have Uu:G≠[]:=by rw[Yh];simp
   rw[<- Yh,pJ Uu,sY Uu];refine aa4 3 rfl (Fb G 0) ?_;have e1:(G.map fun g=>[cl g.f.row,AC.lst (uv g.ps)]).map (List.map SV.c)=((G.map fun g=>(⟨g.f.row,g.ps⟩:ac)).map gU).map o5:=by
    simp only[List.map_map];rfl
   rw[e1];obtain⟨X,hX⟩:∃ X:List ac,X=G.map fun g=>⟨g.f.row,g.ps⟩:=⟨_,rfl⟩
   have hXl:X.length=G.length:=by rw[hX];simp
   have hXr:∀ s∈X,s.row.length<=1000:=by
    intro s hs;rw[hX]at hs;obtain⟨g,hg,rfl⟩:=arK.1 hs;exact Zt g hg
   rw[<- hX];have e2:(rM G).set 3 (.row (194+65536*G.length) ((X.map gU).map o5) 2) = .map (oG 0 G) :: .dead::AW G :: .row (194+65536*G.length) ((X.map gU).map o5) 2::vg G:=rfl;rw[e2];rw[<- hX]at XJ;have O4:=aff (194+65536*G.length) (X:=X) (n:=G.length) hXl XJ m0 (fun s hs=>by have:=hXr s hs;omega);refine aw_region cq _ rfl ?_
   repeat' (first|(refine cK [3] rfl rfl rfl rfl O4 rfl (aqx rfl (bY ⟨(by show 0<1;omega),t7,t7⟩)) rfl (jG3 (L' := .map (oG 0 G) :: .dead::AW G :: .row (194+65536*G.length) (((lF fy X).map gU).map o5) 2::vg G) rfl) ?_)|refine gw_ trivial trivial ?_|refine gi_ (fun hb=>?_) (fun hb=>?_)|fail)
   refine qp 3 (L := .map (oG 0 G) :: .dead::AW G :: .row (194+65536*G.length) (((lF fy X).map gU).map o5) 2::vg G) rfl (afJ _) ?_;simp only[ari,arn,thA,thS,and_self,if_true,List.drop_zero];have e3:(((lF fy X).map gU).map fun x=>[x.1,x.2]).take G.length=(lF fy X).map af:=by
    rw[arP (by simp[(pH fy X).length_eq,hXl]),List.map_map];rfl
   rw[e3]
   repeat' (first|refine gw_ cq aZ ?_|refine gi_ (fun hb=>?_) (fun hb=>?_)|fail)
   exact a6 (bj rfl (by trivial) rfl)
theorem ud {α:Type}(l:List α):l=[] \/ ∃ m x,l=m++[x]:=by
 cases h:l.getLast? with
 |none=>exact .inl (by simpa using h)
 |some x=>exact .inr ⟨l.dropLast,x,by obtain⟨ys,rfl⟩:=List.getLast?_eq_some_iff.1 h;simp⟩
