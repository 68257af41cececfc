/- Parts of the proof, joined. No condition. -/
import Derived.Test.YtnbnpnmkgemdeaaGreatDoorKAA
import Derived.Test.YtnbnpnmkgemdeaaGreatDoorKAQ
import Derived.Test.YtnbnpnmkgemdeaaGreatDoorKAJ
import Derived.Lib.Bytealg
import Derived.Test.YtnbnpnmkgemdeaaGreatDoorKAO
set_option linter.unusedSimpArgs false
set_option linter.unusedVariables false
namespace Go.Proofs.YtnbnpnmkgemdeaaGreatDoor
open Go.RowKit Go.MapKept
set_option maxRecDepth 100000
set_option maxHeartbeats 4000000
section
variable {α:Type} {lt:α->α->Bool} {S:α->Prop} {cmp:α->α->Option Int}
def G7 (rec:Nat->List α->Int->Int->Int->(α->α->Option Int)->Option (List α)) (cmp:α->α->Option Int) (n:Nat) (D:List α) (a s m e mid b:Int):Option (List α) :=
 (bif decide (s<m)&&decide (m<e) then nY n D s m e cmp else some D).bind fun c1 =>
 (bif decide (a<s)&&decide (s<mid) then rec n c1 a s mid cmp else some c1).bind fun c2 =>
 (bif decide (mid<e)&&decide (e<b) then rec n c2 mid e b cmp else some c2).bind fun c3=>some c3
theorem Qf (rec:Nat->List α->Int->Int->Int->(α->α->Option Int)->Option (List α)) (n:Nat) (D:List α) (a m b s:Int):kR D a m b cmp n rec (.inl (s,s))=G7 rec cmp n D a s m (IntKind.i64.wrap ((IntKind.i64.wrap ((bH (IntKind.i64.wrap (a+b)))+m))-s)) (bH (IntKind.i64.wrap (a+b))) b:=by
 unfold kR G7
 dsimp only
 generalize bH (IntKind.i64.wrap (a+b))=mid
 generalize IntKind.i64.wrap (IntKind.i64.wrap (mid+m)-s)=e
 generalize decide (s<m)=d1
 generalize decide (m<e)=d2
 generalize decide (a<s)=d3
 generalize decide (s<mid)=d4
 generalize decide (mid<e)=d5
 generalize decide (e<b)=d6
 cases d1<;>cases d2<;>cases d3<;>cases d4<;>cases d5<;>cases d6<;>rfl
theorem Wn (D:List α) (a m b:Int) (n:Nat):yf D a m b cmp n=kV D a m b cmp n:=rfl
theorem WK (rec:Nat->List α->Int->Int->Int->(α->α->Option Int)->Option (List α)) (D:List α) (a m b:Int) (n:Nat):tQ D a m b cmp n rec=kR D a m b cmp n rec:=by
 funext q
 cases q<;>rfl
theorem Ng (h:xG lt S) (hc:nH cmp lt S) {n:Nat} (hn2:n<=1000000000) {D:List α} (hD:D.length=n) (hS : ∀ z∈D,S z) {a m b lo hi:Nat} (hab:a<m/\m<b/\b<=n) (hlh:lo<=hi) (hlo:a<=lo) (hhi:hi<=m) (hlo2:(a+b)/2+m<=lo+b) (hhi2:hi+a<=(a+b)/2+m ) (hhi3:hi<=(a+b)/2) (hlo3:m<=(a+b)/2+m-hi) :
  ∃ s:Nat,ah (kV D (a:Int) (m:Int) (b:Int) cmp n) fuel ((lo:Int),(hi:Int))=some (.inl ((s:Int),(s:Int)))/\lo<=s/\s<=hi/\(s=lo \/ ∃ x y,D[s-1]?=some x/\D[(a+b)/2+m-s]?=some y/\lt y x=false)/\(s=hi \/ ∃ x y,D[(a+b)/2+m-1-s]?=some x/\D[s]?=some y/\lt x y=true):=by
 obtain ⟨s,hs,s1,s2,s3,s4⟩:=xx (body:=kV D (a:Int) (m:Int) (b:Int) cmp n) lo hi (WX lt D ((a+b)/2+m-1)) (by
  intro i j hi1 hij hj
  obtain ⟨x,hx⟩:=gol_ (l:=D) (i:=(a+b)/2+m-1-(i+j)/2) (by omega)
  obtain ⟨y,hy⟩:=gol_ (l:=D) (i:=(i+j)/2) (by omega)
  obtain ⟨r,hr,hr2⟩:=hc x y (hS x (Y4 hx)) (hS y (Y4 hy))
  unfold kV
  dsimp only
  rw [zB (i:=i) (j:=j) (by omega),zB (i:=a) (j:=b) (by omega),Px ((a+b)/2) m (by omega),Vv _ (by omega) (by omega),NH ((a+b)/2+m-1) ((i+j)/2) (by omega) (by omega),wrapN (by omega)]
  simp only [EY hij,JU,EY (show (i+j)/2<n by omega),EY (show (a+b)/2+m-1-(i+j)/2<n by omega),Y0,gn_ hx,gn_ hy,YX,hr,hr2]
  unfold WX
  rw [hx,hy]
  dsimp only
  cases lt x y<;>rfl) (by
  intro i
  unfold kV
  dsimp only
  rw [Y1 (by omega),YZ]) fuel lo hi (Ze _) hlh (Ze _) (by unfold fuel;omega) (.inl rfl) (.inl rfl)
 refine ⟨s,hs,s1,s2,?_,?_⟩
 ·rcases s3 with e|e
  ·exact .inl e
  ·by_cases hsl:s=lo
   ·exact .inl hsl
   ·refine .inr ?_
    obtain ⟨x,hx⟩:=gol_ (l:=D) (i:=s-1) (by omega)
    obtain ⟨y,hy⟩:=gol_ (l:=D) (i:=(a+b)/2+m-s) (by omega)
    unfold WX at e
    rw [show (a+b)/2+m-1-(s-1)=(a+b)/2+m-s by omega,hy,hx] at e
    exact ⟨x,y,hx,hy,by simpa using e⟩
 ·by_cases hsh:s=hi
  ·exact .inl hsh
  ·rcases s4 with e|e
   ·exact .inl e
   ·refine .inr ?_
    obtain ⟨x,hx⟩:=gol_ (l:=D) (i:=(a+b)/2+m-1-s) (by omega)
    obtain ⟨y,hy⟩:=gol_ (l:=D) (i:=s) (by omega)
    unfold WX at e
    rw [hx,hy] at e
    exact ⟨x,y,hx,hy,by simpa using e⟩
theorem Bi (h:xG lt S) (hc:nH cmp lt S) {n:Nat} (hn2:n<=1000000000) : ∀ (q:Nat) (P A B Q:List α),A.length+B.length<=q->0<A.length->0<B.length->(∀ z∈P++(A++(B++Q)),S z)->dS lt A->dS lt B->(P++(A++(B++Q))).length=n ->
  ∃ M,CB q n (P++(A++(B++Q))) (P.length:Int) ((P.length+A.length:Nat):Int) ((P.length+A.length+B.length:Nat):Int) cmp=some (P++(M++Q))/\dS lt M/\M.Perm (A++B)
 | 0,P,A,B,Q,hq,hA,hB,_,_,_,_=>by omega
 | q+1,P,A,B,Q,hq,hA,hB,hS,aA,aB,hn=>by
  have hn':=hn
  simp only [Y6] at hn'
  have sA : ∀ z∈A,S z:=fun z hz=>hS z (by simp [hz])
  have sB : ∀ z∈B,S z:=fun z hz=>hS z (by simp [hz])
  show ∃ M,rH (CB q) n (P++(A++(B++Q))) (P.length:Int) ((P.length+A.length:Nat):Int) ((P.length+A.length+B.length:Nat):Int) cmp=some (P++(M++Q))/\_
  unfold rH
  rw [NH (P.length+A.length) P.length (by omega) (by omega),NH (P.length+A.length+B.length) (P.length+A.length) (by omega) (by omega),show P.length+A.length-P.length=A.length by omega,show P.length+A.length+B.length-(P.length+A.length)=B.length by omega]
  by_cases c1:A.length=1
  ·obtain ⟨x,rfl⟩ : ∃ x,A=[x]:=match A,c1 with|[x],_=>⟨x,rfl⟩
   rw [Y2 (show (([x]:List α).length:Int)=1 from rfl),Y0]
   obtain ⟨M,k1,k2,k3⟩:=R8 h hc hn2 (P:=P) (Q:=Q) (sA x (by simp)) sB aB hn
   exact ⟨M,k1,k2,k3⟩
  ·rw [Y1 (show ¬ (A.length:Int)=1 by omega),YZ]
   by_cases c2:B.length=1
   ·obtain ⟨x,rfl⟩ : ∃ x,B=[x]:=match B,c2 with|[x],_=>⟨x,rfl⟩
    rw [Y2 (show (([x]:List α).length:Int)=1 from rfl),Y0]
    obtain ⟨M,k1,k2,k3⟩:=Td h hc hn2 (P:=P) (Q:=Q) (sB x (by simp)) sA aA hn
    exact ⟨M,k1,k2,k3⟩
   ·rw [Y1 (show ¬ (B.length:Int)=1 by omega),YZ,zB (by omega)]
    have hD:(P++(A++(B++Q))).length=n:=hn
    have gA : ∀ i y,A[i]?=some y->(P++(A++(B++Q)))[P.length+i]?=some y:=by
     intro i y hy
     have hi:=(YY.1 hy).1
     rw [Y5 (by omega),show P.length+i-P.length=i by omega,Zc hi]
     exact hy
    have gB : ∀ i y,B[i]?=some y->(P++(A++(B++Q)))[P.length+A.length+i]?=some y:=by
     intro i y hy
     have hi:=(YY.1 hy).1
     rw [Y5 (by omega),Y5 (by omega),show P.length+A.length+i-P.length-A.length=i by omega,Zc hi]
     exact hy
    generalize hmid:(P.length+(P.length+A.length+B.length))/2=mid

    have key : ∃ s:Nat,((bif decide (((mid:Nat):Int)<((P.length+A.length:Nat):Int)) then (ah (kV (P++(A++(B++Q))) (P.length:Int) ((P.length+A.length:Nat):Int) ((P.length+A.length+B.length:Nat):Int) cmp n) fuel ((IntKind.i64.wrap ((IntKind.i64.wrap (((mid:Nat):Int)+((P.length+A.length:Nat):Int)))-((P.length+A.length+B.length:Nat):Int))),((mid:Nat):Int))).bind (kR (P++(A++(B++Q))) (P.length:Int) ((P.length+A.length:Nat):Int) ((P.length+A.length+B.length:Nat):Int) cmp n (CB q)) else
      (ah (yf (P++(A++(B++Q))) (P.length:Int) ((P.length+A.length:Nat):Int) ((P.length+A.length+B.length:Nat):Int) cmp n) fuel ((P.length:Int),((P.length+A.length:Nat):Int))).bind (tQ (P++(A++(B++Q))) (P.length:Int) ((P.length+A.length:Nat):Int) ((P.length+A.length+B.length:Nat):Int) cmp n (CB q))))=kR (P++(A++(B++Q))) (P.length:Int) ((P.length+A.length:Nat):Int) ((P.length+A.length+B.length:Nat):Int) cmp n (CB q) (.inl ((s:Int),(s:Int))) /\
      P.length<=s/\s<=P.length+A.length/\P.length+A.length<=mid+(P.length+A.length)-s/\mid+(P.length+A.length)-s<=P.length+A.length+B.length/\s<=mid+(P.length+A.length) /\
      (s=P.length\/mid+(P.length+A.length)-s=P.length+A.length+B.length \/ ∃ x y,(P++(A++(B++Q)))[s-1]?=some x/\(P++(A++(B++Q)))[mid+(P.length+A.length)-s]?=some y/\lt y x=false) /\
      (mid+(P.length+A.length)-s=P.length+A.length\/s=P.length+A.length \/ ∃ x y,(P++(A++(B++Q)))[mid+(P.length+A.length)-1-s]?=some x/\(P++(A++(B++Q)))[s]?=some y/\lt x y=true):=by
     by_cases hm:mid<P.length+A.length
     ·rw [Y2 (show ((mid:Nat):Int)<((P.length+A.length:Nat):Int) by omega),Y0,Px mid (P.length+A.length) (by omega),NH (mid+(P.length+A.length)) (P.length+A.length+B.length) (by omega) (by omega)]
      obtain ⟨s,hs,s1,s2,s3,s4⟩:=Ng h hc hn2 hD hS (a:=P.length) (m:=P.length+A.length) (b:=P.length+A.length+B.length) (lo:=mid+(P.length+A.length)-(P.length+A.length+B.length)) (hi:=mid) (by omega) (by omega) (by omega) (by omega) (by omega) (by omega) (by omega) (by omega)
      rw [hs,YX]
      rw [hmid] at s3 s4
      refine ⟨s,rfl,by omega,by omega,by omega,by omega,by omega,?_,?_⟩
      ·rcases s3 with e|e
       ·exact .inr (.inl (by omega))
       ·exact .inr (.inr e)
      ·rcases s4 with e|e
       ·exact .inl (by omega)
       ·exact .inr (.inr e)
     ·rw [Y1 (show ¬ ((mid:Nat):Int)<((P.length+A.length:Nat):Int) by omega),YZ,Wn,WK]
      obtain ⟨s,hs,s1,s2,s3,s4⟩:=Ng h hc hn2 hD hS (a:=P.length) (m:=P.length+A.length) (b:=P.length+A.length+B.length) (lo:=P.length) (hi:=P.length+A.length) (by omega) (by omega) (by omega) (by omega) (by omega) (by omega) (by omega) (by omega)
      rw [hs,YX]
      rw [hmid] at s3 s4
      refine ⟨s,rfl,by omega,by omega,by omega,by omega,by omega,?_,?_⟩
      ·rcases s3 with e|e
       ·exact .inl e
       ·exact .inr (.inr e)
      ·rcases s4 with e|e
       ·exact .inr (.inl e)
       ·exact .inr (.inr e)
    obtain ⟨s,hk,s1,s2,s3,s4,s4b,s5,s6⟩:=key
    rw [hk,Qf,zB (by omega),hmid,Px mid (P.length+A.length) (by omega),NH (mid+(P.length+A.length)) s s4b (by omega)]
    obtain ⟨A1,A2,rfl,hA1⟩:=sD (l:=A) (s:=s-P.length) (by omega)
    obtain ⟨B1,B2,rfl,hB1⟩:=sD (l:=B) (s:=mid+(P.length+(A1++A2).length)-s-(P.length+(A1++A2).length)) (by omega)
    simp only [Y6] at hk s1 s2 s3 s4 s4b s5 s6 hA hB hq c1 c2 hmid hB1 hn' ⊢
    have eS:s=P.length+A1.length:=by omega
    have eE:mid+(P.length+(A1.length+A2.length))-s=P.length+(A1.length+A2.length)+B1.length:=by omega
    have eM:mid=P.length+A1.length+B1.length:=by omega

    have h1:A1=[]\/B2=[] \/ ∃ A' x y B',A1=A'++[x]/\B2=y::B'/\lt y x=false:=by
     by_cases z1:0<A1.length
     ·by_cases z2:0<B2.length
      ·obtain ⟨A',x,rfl⟩:=Bb z1
       obtain ⟨y,B',rfl⟩:=AO z2
       refine .inr (.inr ⟨A',x,y,B',rfl,rfl,?_⟩)
       simp only [Y6,Zk,Zu] at *
       rcases s5 with e|e|⟨x',y',e1,e2,e3⟩
       ·omega
       ·omega
       ·have g1:=gA A'.length x (by simp)
        have g2:=gB B1.length y (by simp)
        rw [show P.length+A'.length=s-1 by omega,e1] at g1
        try simp only [Y6,Zk,Zu] at g2
        rw [show P.length+(A'.length+(0+1)+A2.length)+B1.length=mid+(P.length+(A'.length+(0+1)+A2.length))-s by omega,e2] at g2
        rw [<- Zw g1, <- Zw g2];exact e3
      ·exact .inr (.inl (ZA.1 (by omega)))
     ·exact .inl (ZA.1 (by omega))
    have h2:B1=[]\/A2=[] \/ ∃ A' x y B',B1=A'++[x]/\A2=y::B'/\lt y x=false:=by
     by_cases z1:0<B1.length
     ·by_cases z2:0<A2.length
      ·obtain ⟨B',x,rfl⟩:=Bb z1
       obtain ⟨y,A',rfl⟩:=AO z2
       refine .inr (.inr ⟨B',x,y,A',rfl,rfl,?_⟩)
       have sx:=sB x (by simp)
       have sy:=sA y (by simp)
       simp only [Y6,Zk,Zu] at *
       rcases s6 with e|e|⟨x',y',e1,e2,e3⟩
       ·omega
       ·omega
       ·have g1:=gB B'.length x (by simp)
        have g2:=gA A1.length y (by simp)
        try simp only [Y6,Zk,Zu] at g1
        rw [show P.length+(A1.length+(A'.length+1))+B'.length=mid+(P.length+(A1.length+(A'.length+1)))-1-s by omega,e1] at g1
        rw [<- eS,e2] at g2
        rw [Zw g1,Zw g2] at e3
        exact h.le_of sx sy e3
      ·exact .inr (.inl (ZA.1 (by omega)))
     ·exact .inl (ZA.1 (by omega))
    have pA:=List.pairwise_append.1 aA
    have pB:=List.pairwise_append.1 aB

    unfold G7
    rw [eE,eS,eM]
    have r1:(bif decide (((P.length+A1.length:Nat):Int)<((P.length+(A1.length+A2.length):Nat):Int))&&decide (((P.length+(A1.length+A2.length):Nat):Int)<((P.length+(A1.length+A2.length)+B1.length:Nat):Int)) then nY n (P++(A1++A2++(B1++B2++Q))) ((P.length+A1.length:Nat):Int) ((P.length+(A1.length+A2.length):Nat):Int) ((P.length+(A1.length+A2.length)+B1.length:Nat):Int) cmp else some (P++(A1++A2++(B1++B2++Q))))=some (P++(A1++(B1++(A2++(B2++Q))))):=by
     have e0:P++(A1++A2++(B1++B2++Q))=(P++A1)++(A2++(B1++(B2++Q))):=by simp
     by_cases z1:0<A2.length
     ·by_cases z2:0<B1.length
      ·rw [Y2 (by omega),Y2 (by omega),Bool.and_self,Y0]
       have hr:=K_ hn2 (P:=P++A1) (A:=A2) (B:=B1) (Q:=B2++Q) cmp z1 z2 (by rw [<- e0];exact hn)
       rw [e0]
       simp only [Y6] at hr
       rw [show P.length+(A1.length+A2.length)=P.length+A1.length+A2.length by omega,hr]
       simp
      ·have:B1=[]:=ZA.1 (by omega)
       subst this
       rw [show decide (((P.length+(A1.length+A2.length):Nat):Int)<((P.length+(A1.length+A2.length)+([]:List α).length:Nat):Int))=false from Y1 (by simp),Bool.and_false,YZ]
       simp
     ·have:A2=[]:=ZA.1 (by omega)
      subst this
      rw [show decide (((P.length+A1.length:Nat):Int)<((P.length+(A1.length+([]:List α).length):Nat):Int))=false from Y1 (by simp),Bool.false_and,YZ]
      simp
    rw [r1,YX]
    have r2 : ∃ M1,(bif decide ((P.length:Int)<((P.length+A1.length:Nat):Int))&&decide (((P.length+A1.length:Nat):Int)<((P.length+A1.length+B1.length:Nat):Int)) then CB q n (P++(A1++(B1++(A2++(B2++Q))))) (P.length:Int) ((P.length+A1.length:Nat):Int) ((P.length+A1.length+B1.length:Nat):Int) cmp else some (P++(A1++(B1++(A2++(B2++Q))))))=some (P++(M1++(A2++(B2++Q))))/\dS lt M1/\M1.Perm (A1++B1):=by
     by_cases z1:0<A1.length
     ·by_cases z2:0<B1.length
      ·rw [Y2 (by omega),Y2 (by omega),Bool.and_self,Y0]
       exact Bi h hc hn2 q P A1 B1 (A2++(B2++Q)) (by omega) z1 z2 (fun z hz=>hS z (by simp only [Zq] at hz ⊢;rcases hz with hz|hz|hz|hz|hz|hz<;>simp [hz])) pA.1 pB.1 (by rw [<- hn];simp only [Y6];omega)
      ·have:B1=[]:=ZA.1 (by omega)
       subst this
       rw [show decide (((P.length+A1.length:Nat):Int)<((P.length+A1.length+([]:List α).length:Nat):Int))=false from Y1 (by simp),Bool.and_false,YZ]
       exact ⟨A1,by simp,pA.1,by simp⟩
     ·have:A1=[]:=ZA.1 (by omega)
      subst this
      rw [show decide ((P.length:Int)<((P.length+([]:List α).length:Nat):Int))=false from Y1 (by simp),Bool.false_and,YZ]
      exact ⟨B1,by simp,pB.1,by simp⟩
    obtain ⟨M1,r2,m1,p1⟩:=r2
    rw [r2,YX]
    have hM1:M1.length=A1.length+B1.length:=by rw [p1.length_eq,Y6]
    have r3 : ∃ M2,(bif decide (((P.length+A1.length+B1.length:Nat):Int)<((P.length+(A1.length+A2.length)+B1.length:Nat):Int))&&decide (((P.length+(A1.length+A2.length)+B1.length:Nat):Int)<((P.length+(A1.length+A2.length)+(B1.length+B2.length):Nat):Int)) then CB q n (P++(M1++(A2++(B2++Q)))) ((P.length+A1.length+B1.length:Nat):Int) ((P.length+(A1.length+A2.length)+B1.length:Nat):Int) ((P.length+(A1.length+A2.length)+(B1.length+B2.length):Nat):Int) cmp else some (P++(M1++(A2++(B2++Q)))))=some (P++(M1++(M2++Q)))/\dS lt M2/\M2.Perm (A2++B2):=by
     by_cases z1:0<A2.length
     ·by_cases z2:0<B2.length
      ·rw [Y2 (by omega),Y2 (by omega),Bool.and_self,Y0]
       obtain ⟨M2,k1,k2,k3⟩:=Bi h hc hn2 q (P++M1) A2 B2 Q (by omega) z1 z2 (fun z hz=>by
        simp only [Zq] at hz
        rcases hz with (hz|hz)|hz|hz|hz
        ·exact hS z (by simp [hz])
        ·have:=p1.mem_iff.1 hz
         simp only [Zq] at this
         rcases this with hz|hz<;>exact hS z (by simp [hz])
        ·exact hS z (by simp [hz])
        ·exact hS z (by simp [hz])
        ·exact hS z (by simp [hz])) pA.2.1 pB.2.1 (by rw [<- hn];simp only [Y6];omega)
       refine ⟨M2,?_,k2,k3⟩
       simp only [Y6,hM1] at k1
       rw [show P.length+A1.length+B1.length=P.length+(A1.length+B1.length) by omega,show P.length+(A1.length+A2.length)+B1.length=P.length+(A1.length+B1.length)+A2.length by omega,show P.length+(A1.length+A2.length)+(B1.length+B2.length)=P.length+(A1.length+B1.length)+A2.length+B2.length by omega]
       have e0:P++(M1++(A2++(B2++Q)))=(P++M1)++(A2++(B2++Q)):=by simp
       rw [e0,k1]
       simp
      ·have:B2=[]:=ZA.1 (by omega)
       subst this
       rw [show decide (((P.length+(A1.length+A2.length)+B1.length:Nat):Int)<((P.length+(A1.length+A2.length)+(B1.length+([]:List α).length):Nat):Int))=false from Y1 (by simp),Bool.and_false,YZ]
       exact ⟨A2,by simp,pA.2.1,by simp⟩
     ·have:A2=[]:=ZA.1 (by omega)
      subst this
      rw [show decide (((P.length+A1.length+B1.length:Nat):Int)<((P.length+(A1.length+([]:List α).length)+B1.length:Nat):Int))=false from Y1 (by simp),Bool.false_and,YZ]
      exact ⟨B2,by simp,pB.2.1,by simp⟩
    obtain ⟨M2,r3,m2,p2⟩:=r3
    rw [r3]
    refine ⟨M1++M2,by simp,Kv h (fun z hz=>?_) aA aB h1 h2 m1 m2 p1 p2,II p1 p2⟩
    simp only [Zq] at hz
    rcases hz with (hz|hz)|hz|hz<;>exact hS z (by simp [hz])
end
set_option maxHeartbeats 4000000
section
variable {α:Type} {lt:α->α->Bool} {S:α->Prop} {cmp:α->α->Option Int}
inductive Rn (lt:α->α->Bool) (bs:Nat):List α->Prop
 | last {A:List α} : A.length<=bs->dS lt A->Rn lt bs A
 | cons {A R:List α} : A.length=bs->dS lt A->Rn lt bs R->Rn lt bs (A++R)
inductive Fu (lt:α->α->Bool) (bs:Nat):List α->Prop
 | nil:Fu lt bs []
 | snoc {P A:List α} : Fu lt bs P->A.length=bs->dS lt A->Fu lt bs (P++A)
theorem Fu.rn {bs:Nat} {P:List α} (h:Fu lt bs P) : ∀ {R:List α}, Rn lt bs R->Rn lt bs (P++R):=by
 induction h with
 | nil=>intro R h;exact h
 | @snoc P A _ hl ha ih =>
  intro R h
  rw [Zp]
  exact ih (.cons hl ha h)
theorem Rn.asc {bs:Nat} {l:List α} (h:Rn lt bs l) (hb:0<bs) (hl:l.length<=bs):dS lt l:=by
 cases h with
 | last _ ha=>exact ha
 | @cons A R h1 h2 h3 =>
  have:R=[]:=ZA.1 (by rw [Y6] at hl;omega)
  subst this
  rw [Zy];exact h2
theorem Ns (h:xG lt S) (hc:nH cmp lt S) {n:Nat} (hn2:n<=100000000) : ∀ (N:Nat) (P R:List α),Fu lt 20 P->(∀ z∈P++R,S z)->(P++R).length=n->R.length<N ->
  ∃ P' R' b,ah (iK (n:Int) cmp n) N (P++R,(P.length:Int),((P.length+20:Nat):Int))=some (.inl (P'++R',(P'.length:Int),b))/\Fu lt 20 P'/\R'.length<20/\(P'++R').Perm (P++R)
 | 0,P,R,_,_,_,hN=>by omega
 | N+1,P,R,hF,hS,hn,hN=>by
  have hn':=hn
  rw [Y6] at hn'
  rw [ah]
  by_cases hb:P.length+20<=n
  ·obtain ⟨M,R1,rfl,hM⟩:=sD (l:=R) (s:=20) (by omega)
   rw [Y6] at hn' hN
   obtain ⟨M',k1,k2,k3⟩:=zW h hc (n:=n) (by omega) (P:=P) (M:=M) (Q:=R1) (fun z hz=>hS z (by simp [hz])) hn
   have hM':M'.length=20:=by rw [k3.length_eq,hM]
   have hB:iK (n:Int) cmp n (P++(M++R1),(P.length:Int),((P.length+20:Nat):Int))=some (.next ((P++M')++R1,(((P++M').length:Nat):Int),(((P++M').length+20:Nat):Int))):=by
    unfold iK
    dsimp only
    rw [Y2 (show ((P.length+20:Nat):Int)<=(n:Int) by omega),Y0, <- hM,k1,YX,hM,show IntKind.i64.wrap (((P.length+20:Nat):Int)+20)=((P.length+20+20:Nat):Int) from Px _ 20 (by omega)]
    simp [hM']
   rw [hB]
   obtain ⟨P',R',b,q1,q2,q3,q4⟩:=Ns h hc hn2 N (P++M') R1 (.snoc hF hM' k2) (fun z hz=>by
    simp only [Zq] at hz
    rcases hz with (hz|hz)|hz
    ·exact hS z (by simp [hz])
    ·exact hS z (by simp [k3.mem_iff.1 hz])
    ·exact hS z (by simp [hz])) (by rw [Y6,Y6];omega) (by omega)
   refine ⟨P',R',b,q1,q2,q3,q4.trans ?_⟩
   rw [Zp]
   exact (k3.append_right R1).append_left P
  ·have hB:iK (n:Int) cmp n (P++R,(P.length:Int),((P.length+20:Nat):Int))=some (.exit (P++R,(P.length:Int),((P.length+20:Nat):Int))):=by
    unfold iK
    dsimp only
    rw [Y1 (by omega),YZ]
   rw [hB]
   exact ⟨P,R,_,rfl,hF,by omega, .refl _⟩
theorem MG (h:xG lt S) (hc:nH cmp lt S) {n bs:Nat} (hn2:n<=100000000) (hb:0<bs) (hb2:bs<=n) : ∀ (N:Nat) (P R:List α),Fu lt (2*bs) P->Rn lt bs R->(∀ z∈P++R,S z)->(P++R).length=n->R.length<N ->
  ∃ P' R' b,ah (iP (n:Int) cmp n (bs:Int)) N (P++R,(P.length:Int),((P.length+2*bs:Nat):Int))=some (.inl (P'++R',(P'.length:Int),b))/\Fu lt (2*bs) P'/\Rn lt bs R'/\R'.length<2*bs/\(P'++R').Perm (P++R)
 | 0,P,R,_,_,_,_,hN=>by omega
 | N+1,P,R,hF,hR,hS,hn,hN=>by
  have hn':=hn
  rw [Y6] at hn'
  rw [ah]
  by_cases hle:P.length+2*bs<=n
  ·
   obtain ⟨A,B,Q,rfl,hA,hB,aA,aB,hQ⟩ : ∃ A B Q,R=A++(B++Q)/\A.length=bs/\B.length=bs/\dS lt A/\dS lt B/\Rn lt bs Q:=by
    cases hR with
    | last h1 _=>omega
    | @cons A R1 h1 h2 h3 =>
     rw [Y6] at hn'
     cases h3 with
     | last g1 g2=>exact ⟨A,R1,[],by rw [Zy],h1,by omega,h2,g2, .last (Zj _) List.Pairwise.nil⟩
     | @cons B R2 g1 g2 g3=>exact ⟨A,B,R2,rfl,h1,g1,h2,g2,g3⟩
   rw [Y6,Y6] at hn' hN
   obtain ⟨M,k1,k2,k3⟩:=Bi h hc (n:=n) (by omega) fuel P A B Q (by unfold fuel;omega) (by omega) (by omega) hS aA aB hn
   have hM:M.length=2*bs:=by rw [k3.length_eq,Y6];omega
   have hBo:iP (n:Int) cmp n (bs:Int) (P++(A++(B++Q)),(P.length:Int),((P.length+2*bs:Nat):Int))=some (.next ((P++M)++Q,(((P++M).length:Nat):Int),(((P++M).length+2*bs:Nat):Int))):=by
    unfold iP
    dsimp only
    rw [hA,hB,show P.length+bs+bs=P.length+2*bs by omega] at k1
    rw [Y2 (show ((P.length+2*bs:Nat):Int)<=(n:Int) by omega),Y0,Px P.length bs (by omega),k1,YX,show IntKind.i64.wrap ((2:Int)*(bs:Int))=((2*bs:Nat):Int) by rw [bV (by omega)];omega,Px _ (2*bs) (by omega)]
    simp [hM]
   rw [hBo]
   obtain ⟨P',R',b,q1,q2,q3,q4,q5⟩:=MG h hc hn2 hb hb2 N (P++M) Q (.snoc hF hM k2) hQ (fun z hz=>by
    simp only [Zq] at hz
    rcases hz with (hz|hz)|hz
    ·exact hS z (by simp [hz])
    ·have:=k3.mem_iff.1 hz;simp only [Zq] at this
     rcases this with hz|hz<;>exact hS z (by simp [hz])
    ·exact hS z (by simp [hz])) (by rw [Y6,Y6];omega) (by omega)
   refine ⟨P',R',b,q1,q2,q3,q4,q5.trans ?_⟩
   rw [Zp]
   refine List.Perm.append_left P ?_
   rw [<- Zp]
   exact k3.append_right Q
  ·have hBo:iP (n:Int) cmp n (bs:Int) (P++R,(P.length:Int),((P.length+2*bs:Nat):Int))=some (.exit (P++R,(P.length:Int),((P.length+2*bs:Nat):Int))):=by
    unfold iP
    dsimp only
    rw [Y1 (by omega),YZ]
   rw [hBo]
   exact ⟨P,R,_,rfl,hF,hR,by omega, .refl _⟩
theorem I4 (h:xG lt S) (hc:nH cmp lt S) {n bs:Nat} (hn2:n<=100000000) (hb:0<bs) (hb2:bs<n) {c:List α} (hR:Rn lt bs c) (hS : ∀ z∈c,S z) (hn:c.length=n) : ∃ c',iQ (n:Int) cmp n (c,(bs:Int))=some (.next (c',((2*bs:Nat):Int)))/\Rn lt (2*bs) c'/\c'.Perm c:=by
 obtain ⟨P,R,b,q1,q2,q3,q4,q5⟩:=MG h hc hn2 hb (by omega) fuel [] c .nil hR hS hn (by unfold fuel;omega)
 rw [Y3] at q1 q5
 have hl:=q5.length_eq
 rw [Y6,hn] at hl
 have e2:IntKind.i64.wrap ((2:Int)*(bs:Int))=((2*bs:Nat):Int):=by rw [bV (by omega)];omega
 have e3:IntKind.i64.wrap ((bs:Int)*2)=((2*bs:Nat):Int):=by rw [bV (by omega)];omega
 simp only [Zu,ZG] at q1
 unfold iQ
 dsimp only
 rw [Y2 (show (bs:Int)<(n:Int) by omega),Y0,e2]
 rw [show ((0:Nat):Int)=0 from rfl] at q1
 rw [q1,YX]
 unfold qH
 dsimp only
 rw [Px P.length bs (by omega),e3]
 have hS' : ∀ z∈P++R,S z:=fun z hz=>hS z (q5.mem_iff.1 hz)
 by_cases hlt:P.length+bs<n
 ·rw [Y2 (show ((P.length+bs:Nat):Int)<(n:Int) by omega),Y0]
  obtain ⟨A,B,rfl,hA,hB,aA,aB⟩ : ∃ A B,R=A++B/\A.length=bs/\0<B.length/\dS lt A/\dS lt B:=by
   cases q3 with
   | last h1 _=>omega
   | @cons A R1 h1 h2 h3 =>
    rw [Y6] at hl q4
    exact ⟨A,R1,rfl,h1,by omega,h2,h3.asc hb (by omega)⟩
  rw [Y6] at hl q4
  obtain ⟨M,k1,k2,k3⟩:=Bi h hc (n:=n) (by omega) fuel P A B [] (by unfold fuel;omega) (by omega) hB (by simpa using hS') aA aB (by rw [Zy,Y6,Y6];omega)
  have hM:M.length=A.length+B.length:=by rw [k3.length_eq,Y6]
  rw [hA,show P.length+bs+B.length=n by omega,Zy] at k1
  rw [k1,YX,Zy]
  exact ⟨P++M,rfl,q2.rn (.last (by omega) k2),(k3.append_left P).trans q5⟩
 ·rw [Y1 (show ¬ ((P.length+bs:Nat):Int)<(n:Int) by omega),YZ]
  exact ⟨P++R,rfl,q2.rn (.last (by omega) (q3.asc hb (by omega))),q5⟩
theorem Ml (h:xG lt S) (hc:nH cmp lt S) {n:Nat} (hn2:n<=100000000) : ∀ (N bs:Nat) (c:List α),0<bs->bs<=2*n+20->Rn lt bs c->(∀ z∈c,S z)->c.length=n->n-bs<N ->
  ∃ c' b,ah (iQ (n:Int) cmp n) N (c,(bs:Int))=some (.inl (c',b))/\dS lt c'/\c'.Perm c
 | 0,bs,c,_,_,_,_,_,hN=>by omega
 | N+1,bs,c,hb,hb2,hR,hS,hn,hN=>by
  rw [ah]
  by_cases hlt:bs<n
  ·obtain ⟨c',k1,k2,k3⟩:=I4 h hc hn2 hb hlt hR hS hn
   rw [k1]
   obtain ⟨c2,b,q1,q2,q3⟩:=Ml h hc hn2 N (2*bs) c' (by omega) (by omega) k2 (fun z hz=>hS z (k3.mem_iff.1 hz)) (by rw [k3.length_eq];exact hn) (by omega)
   exact ⟨c2,b,q1,q2,q3.trans k3⟩
  ·have hB:iQ (n:Int) cmp n (c,(bs:Int))=some (.exit (c,(bs:Int))):=by
    unfold iQ
    dsimp only
    rw [Y1 (by omega),YZ]
   rw [hB]
   exact ⟨c,_,rfl,hR.asc hb (by omega), .refl _⟩
theorem K8 (h:xG lt S) (hc:nH cmp lt S) {n:Nat} (hn2:n<=100000000) {l:List α} (hS : ∀ z∈l,S z) (hn:l.length=n) : ∃ r,xh n l (n:Int) cmp=some r/\dS lt r/\r.Perm l:=by
 obtain ⟨P,R,b,q1,q2,q3,q4⟩:=Ns h hc hn2 fuel [] l .nil hS hn (by unfold fuel;omega)
 rw [Y3] at q1 q4
 have hl:=q4.length_eq
 rw [Y6,hn] at hl
 have hS' : ∀ z∈P++R,S z:=fun z hz=>hS z (q4.mem_iff.1 hz)
 obtain ⟨M,k1,k2,k3⟩:=zW h hc (n:=n) (by omega) (P:=P) (M:=R) (Q:=[]) (fun z hz=>hS' z (by simp [hz])) (by rw [Zy,Y6];omega)
 rw [show P.length+R.length=n by omega,Zy,Zy] at k1
 have hM:M.length=R.length:=k3.length_eq
 obtain ⟨c,b2,w1,w2,w3⟩:=Ml h hc hn2 fuel 20 (P++M) (by omega) (by omega) (q2.rn (.last (by omega) k2)) (fun z hz=>by
  rcases Zq.1 hz with hz|hz
  ·exact hS' z (by simp [hz])
  ·exact hS' z (by simp [k3.mem_iff.1 hz])) (by rw [Y6];omega) (by unfold fuel;omega)
 refine ⟨c,?_,w2,(w3.trans (k3.append_left P)).trans q4⟩
 unfold xh
 simp only [Zu,ZG] at q1
 rw [show ((0:Nat):Int)=0 from rfl,show ((20:Nat):Int)=20 from rfl] at q1
 rw [show ((20:Nat):Int)=20 from rfl] at w1
 rw [q1,YX]
 unfold qM
 dsimp only
 rw [k1,YX,w1];rfl
theorem L9 (h:xG lt S) (hc:nH cmp lt S) {n:Nat} (hn2:n<=100000000) {l:List α} (hS : ∀ z∈l,S z) (hn:l.length=n) : ∃ r,yD n l cmp=some r/\dS lt r/\r.Perm l:=by
 obtain ⟨r,h1,h2,h3⟩:=K8 h hc hn2 hS hn
 refine ⟨r,?_,h2,h3⟩
 unfold yD
 rw [h1];rfl
end
set_option maxHeartbeats 8000000
def EP (a_less:Bool) (a_greater:Bool):Option (Int):=bif a_less then some (-1:Int) else
 bif a_greater then some (1:Int) else
 some (0:Int)
def Ae (a_a:Val) (a_b:Val):Option (Int):=bif (decide (a_a.kind≠a_b.kind)) then (EP (decide (a_a.kind<a_b.kind)) (decide (a_b.kind<a_a.kind))).bind fun r_2=>some r_2 else
 bif (decide (a_a.int≠a_b.int)) then (EP (decide (a_a.int<a_b.int)) (decide (a_b.int<a_a.int))).bind fun r_4=>some r_4 else
 (EP (Op.bytesLess a_a.text.toList a_b.text.toList) (!((Op.bytesLess a_a.text.toList a_b.text.toList)||(a_a.text.toList==a_b.text.toList)))).bind fun r_5=>some r_5
set_option maxHeartbeats 8000000
def dK:Option (Val):=some (⟨(0:Int),(0:Int),ByteArray.empty⟩:Val)
def ku (a_s:ByteArray):(Int)->Option (Step (Int) (Bool)):=fun s=>match s with
 | i_1=>bif (decide (i_1<((a_s.size:Nat):Int))) then (NE a_s i_1).bind fun b_3=>bif (decide (((b_3.toNat:Nat):Int)<(32:Int))) then some (.ret false) else
 bif (decide ((126:Int)<((b_3.toNat:Nat):Int))) then some (.ret false) else
 some (.next (IntKind.i64.wrap (i_1+(1:Int)))) else
 some (.exit i_1)
def dC:Sum (Int) (Bool)->Option ((Bool))
 | .inl i_1=>some true
 | .inr q=>some q
def nE (a_s:ByteArray):Option (Bool):=(ah (ku a_s) fuel (0:Int)).bind (dC)
theorem EI {a_s:ByteArray} {r:Bool} (H:nE a_s=some r):Pure Tryz.prog 103 [.one (.str a_s)] (.val (.one (.bool r))):=by
 unfold nE at H
 refine po_ Tryz.func103 Tryz.ntmps103 ?_
 repeat' (first|refine gs5_ ?_|refine b_ rfl rfl rfl rfl rfl rfl rfl ?_)
 refine alM_ (fun s:Int=>match s with|i_1=>[(0, .one (.c (.str a_s))),(3, .one (.c (.int .i64 i_1)))]) (fun s=>match s with|i_1=>[]) H (fun _=>Zj _)
  (fm_ bL [] rfl bq trivial) ?_
 rintro i_1 st1 hb1 hk1
 unfold ku at hb1
 dsimp only at hb1 ⊢
 rcases aa hb1 with ⟨q_2,hb1⟩|⟨q_2,hb1⟩
 ·obtain ⟨b_3,i1,hb1⟩:=bd_ hb1
  obtain ⟨i1z,i1⟩:=F3 i1
  rcases aa hb1 with ⟨q_4,hb1⟩|⟨q_4,hb1⟩
  ·cases hb1
   have hx1:dC (.inr false)=some _:=hk1
   unfold dC at hx1
   dsimp only at hx1
   cases hx1
   repeat' (first|refine gs5_ ?_|refine b_ rfl rfl rfl rfl rfl rfl rfl ?_)
   refine aV (aX rfl ?_ ?_)
   ·repeat' (first|exact trivial|rfl|exact Y8 rfl|omega|apply And.intro)
   ·first|rfl|(simp only [Zb,Y9,Zd,Y3]<;>rfl)
  rcases aa hb1 with ⟨q_5,hb1⟩|⟨q_5,hb1⟩
  ·cases hb1
   have hx1:dC (.inr false)=some _:=hk1
   unfold dC at hx1
   dsimp only at hx1
   cases hx1
   repeat' (first|refine gs5_ ?_|refine b_ rfl rfl rfl rfl rfl rfl rfl ?_)
   refine aV (aX rfl ?_ ?_)
   ·repeat' (first|exact trivial|rfl|exact Y8 rfl|omega|apply And.intro)
   ·first|rfl|(simp only [Zb,Y9,Zd,Y3]<;>rfl)
  cases hb1
  repeat' (first|refine gs5_ ?_|refine b_ rfl rfl rfl rfl rfl rfl rfl ?_)
  exact ⟨_,rfl,fm_ bL [] rfl bq trivial⟩
 cases hb1
 have hx1:dC (.inl i_1)=some _:=hk1
 unfold dC at hx1
 dsimp only at hx1
 cases hx1
 repeat' (first|refine gs5_ ?_|refine b_ rfl rfl rfl rfl rfl rfl rfl ?_)
 refine aV (aX rfl ?_ ?_)
 ·repeat' (first|exact trivial|rfl|exact Y8 rfl|omega|apply And.intro)
 ·first|rfl|(simp only [Zb,Y9,Zd,Y3]<;>rfl)
def dx (a_v:Val):Option (Bool):=bif (decide (a_v.kind=(0:Int))) then bif (decide (a_v.int=(0:Int))) then some (a_v.text.toList==(⟨#[]⟩:ByteArray).toList) else
 some false else
 bif (decide (a_v.kind=(1:Int))) then bif (a_v.text.toList==(⟨#[]⟩:ByteArray).toList) then bif (decide ((-1125899906842624:Int)<=a_v.int)) then some (decide (a_v.int<=(1125899906842624:Int))) else
 some false else
 some false else
 bif (decide (a_v.kind=(2:Int))) then bif (decide (a_v.int=(0:Int))) then bif (decide (((a_v.text.size:Nat):Int)<=(200:Int))) then (nE a_v.text).bind fun r_9=>some r_9 else
 some false else
 some false else
 bif (decide (a_v.kind=(3:Int))) then bif (a_v.text.toList==(⟨#[]⟩:ByteArray).toList) then bif (decide (a_v.int=(0:Int))) then some true else
 some (decide (a_v.int=(1:Int))) else
 some false else
 some false
theorem mM {a_v:Val} {r:Bool} (H:dx a_v=some r):Pure Tryz.prog 77 [.agg (cV a_v)] (.val (.one (.bool r))):=by
 unfold dx at H
 refine po_ Tryz.func77 Tryz.ntmps77 ?_
 rcases aa H with ⟨q_1,H⟩|⟨q_1,H⟩
 ·rcases aa H with ⟨q_2,H⟩|⟨q_2,H⟩
  ·cases H
   exact aj
  cases H
  exact aj
 rcases aa H with ⟨q_3,H⟩|⟨q_3,H⟩
 ·rcases aa H with ⟨q_4,H⟩|⟨q_4,H⟩
  ·rcases aa H with ⟨q_5,H⟩|⟨q_5,H⟩
   ·cases H
    exact aj
   cases H
   exact aj
  cases H
  exact aj
 rcases aa H with ⟨q_6,H⟩|⟨q_6,H⟩
 ·rcases aa H with ⟨q_7,H⟩|⟨q_7,H⟩
  ·rcases aa H with ⟨q_8,H⟩|⟨q_8,H⟩
   ·obtain ⟨r_9,c1,H⟩:=bd_ H
    replace c1:=EI c1
    cases H
    exact aj
   cases H
   exact aj
  cases H
  exact aj
 rcases aa H with ⟨q_10,H⟩|⟨q_10,H⟩
 ·rcases aa H with ⟨q_11,H⟩|⟨q_11,H⟩
  ·rcases aa H with ⟨q_12,H⟩|⟨q_12,H⟩
   ·cases H
    exact aj
   cases H
   exact aj
  cases H
  exact aj
 cases H
 exact aj
def qP (a_v:Val):Option (Val):=(dx a_v).bind fun r_1=>bif r_1 then some a_v else
 (dK ).bind fun r_3=>some r_3
def nR (a_n:Int):Option (Val):=(qP (⟨(1:Int),a_n,ByteArray.empty⟩:Val)).bind fun r_1=>some r_1
def LW (a_row:(List Val)) (a_i:Int):Option (Val):=bif (decide (a_i<(0:Int))) then (dK ).bind fun r_2=>some r_2 else
 bif (decide (((a_row.length:Nat):Int)<=a_i)) then (dK ).bind fun r_4=>some r_4 else
 (au a_row a_i).bind fun x_5=>some x_5
def gV (a_row:(List Val)) (a_kinds:(List Int)):(Int)->Option (Step (Int) (Bool)):=fun s=>match s with
 | i_2=>bif (decide (i_2<((a_row.length:Nat):Int))) then (au a_row i_2).bind fun x_4=>(dx x_4).bind fun r_5=>bif (!r_5) then some (.ret false) else
 bif (decide (x_4.kind≠(0:Int))) then (au a_kinds i_2).bind fun x_8=>bif (decide (x_4.kind≠x_8)) then some (.ret false) else
 some (.next (IntKind.i64.wrap (i_2+(1:Int)))) else
 some (.next (IntKind.i64.wrap (i_2+(1:Int)))) else
 some (.exit i_2)
def jb:Sum (Int) (Bool)->Option ((Bool))
 | .inl i_2=>some true
 | .inr q=>some q
def qW (a_row:(List Val)) (a_kinds:(List Int)):Option (Bool):=bif (decide (((a_row.length:Nat):Int)≠((a_kinds.length:Nat):Int))) then some false else
 (ah (gV a_row a_kinds) fuel (0:Int)).bind (jb)
theorem N7 {a_row:(List Val)} {a_kinds:(List Int)} {r:Bool} (H:qW a_row a_kinds=some r):Pure Tryz.prog 47 [.one (.lst (a_row.map cV)), .one (.lst (a_kinds.map (fun x=>[AC.int .i64 x])))] (.val (.one (.bool r))):=by
 unfold qW at H
 refine po_ Tryz.func47 Tryz.ntmps47 ?_
 rcases aa H with ⟨q_1,H⟩|⟨q_1,H⟩
 ·cases H
  exact aj
 refine bf ?_
 refine alM_ (fun s:Int=>match s with|i_2=>[(0, .one (.c (.lst (a_row.map cV)))),(1, .one (.c (.lst (a_kinds.map (fun x=>[AC.int .i64 x]))))),(5, .one (.c (.int .i64 i_2)))]) (fun s=>match s with|i_2=>[]) H (fun _=>Zj _)
  (fm_ bL [] rfl bq trivial) ?_
 rintro i_2 st1 hb1 hk1
 unfold gV at hb1
 dsimp only at hb1 ⊢
 rcases aa hb1 with ⟨q_3,hb1⟩|⟨q_3,hb1⟩
 ·obtain ⟨x_4,i1z,i1,i1x,hb1⟩:=aI (f:=cV) hb1
  obtain ⟨r_5,c2,hb1⟩:=bd_ hb1
  replace c2:=mM c2
  rcases aa hb1 with ⟨q_6,hb1⟩|⟨q_6,hb1⟩
  ·cases hb1
   have hx1:jb (.inr false)=some _:=hk1
   unfold jb at hx1
   dsimp only at hx1
   cases hx1
   exact aj
  rcases aa hb1 with ⟨q_7,hb1⟩|⟨q_7,hb1⟩
  ·obtain ⟨x_8,i3z,i3,i3x,hb1⟩:=aI (f:=(fun x=>[AC.int .i64 x])) hb1
   rcases aa hb1 with ⟨q_9,hb1⟩|⟨q_9,hb1⟩
   ·cases hb1
    have hx1:jb (.inr false)=some _:=hk1
    unfold jb at hx1
    dsimp only at hx1
    cases hx1
    exact aj
   cases hb1
   refine bf ?_
   exact ⟨_,rfl,fm_ bL [] rfl bq trivial⟩
  cases hb1
  refine bf ?_
  exact ⟨_,rfl,fm_ bL [] rfl bq trivial⟩
 cases hb1
 have hx1:jb (.inl i_2)=some _:=hk1
 unfold jb at hx1
 dsimp only at hx1
 cases hx1
 exact aj
def vO (a_k:Int):Option (Bool):=bif (decide (a_k=(1:Int))) then some true else
 bif (decide (a_k=(2:Int))) then some true else
 some (decide (a_k=(3:Int)))
theorem P5 {a_k:Int} {r:Bool} (H:vO a_k=some r):Pure Tryz.prog 78 [.one (.int .i64 a_k)] (.val (.one (.bool r))):=by
 unfold vO at H
 refine po_ Tryz.func78 Tryz.ntmps78 ?_
 rcases aa H with ⟨q_1,H⟩|⟨q_1,H⟩
 ·cases H
  exact aj
 rcases aa H with ⟨q_2,H⟩|⟨q_2,H⟩
 ·cases H
  exact aj
 cases H
 exact aj
def gX (a_l:(List Int)):(Int)->Option (Step (Int) (Bool)):=fun s=>match s with
 | i_1=>bif (decide (i_1<((a_l.length:Nat):Int))) then (au a_l i_1).bind fun x_3=>(vO x_3).bind fun r_4=>bif (!r_4) then some (.ret false) else
 some (.next (IntKind.i64.wrap (i_1+(1:Int)))) else
 some (.exit i_1)
def pg:Sum (Int) (Bool)->Option ((Bool))
 | .inl i_1=>some true
 | .inr q=>some q
def uk (a_l:(List Int)):Option (Bool):=(ah (gX a_l) fuel (0:Int)).bind (pg)
theorem O3 {a_l:(List Int)} {r:Bool} (H:uk a_l=some r):Pure Tryz.prog 48 [.one (.lst (a_l.map (fun x=>[AC.int .i64 x])))] (.val (.one (.bool r))):=by
 unfold uk at H
 refine po_ Tryz.func48 Tryz.ntmps48 ?_
 refine bf ?_
 refine alM_ (fun s:Int=>match s with|i_1=>[(0, .one (.c (.lst (a_l.map (fun x=>[AC.int .i64 x]))))),(3, .one (.c (.int .i64 i_1)))]) (fun s=>match s with|i_1=>[]) H (fun _=>Zj _)
  (fm_ bL [] rfl bq trivial) ?_
 rintro i_1 st1 hb1 hk1
 unfold gX at hb1
 dsimp only at hb1 ⊢
 rcases aa hb1 with ⟨q_2,hb1⟩|⟨q_2,hb1⟩
 ·obtain ⟨x_3,i1z,i1,i1x,hb1⟩:=aI (f:=(fun x=>[AC.int .i64 x])) hb1
  obtain ⟨r_4,c2,hb1⟩:=bd_ hb1
  replace c2:=P5 c2
  rcases aa hb1 with ⟨q_5,hb1⟩|⟨q_5,hb1⟩
  ·cases hb1
   have hx1:pg (.inr false)=some _:=hk1
   unfold pg at hx1
   dsimp only at hx1
   cases hx1
   exact aj
  cases hb1
  refine bf ?_
  exact ⟨_,rfl,fm_ bL [] rfl bq trivial⟩
 cases hb1
 have hx1:pg (.inl i_1)=some _:=hk1
 unfold pg at hx1
 dsimp only at hx1
 cases hx1
 exact aj
set_option maxHeartbeats 8000000
structure AB {α:Type} (c:α->α->Int):Prop where
 refl : ∀ a,c a a=0
 zero : ∀ a b,c a b=0->a=b
 anti : ∀ a b,c a b<0↔0<c b a
 trans : ∀ a b d,c a b<0->c b d<0->c a d<0
theorem tCi_:AB iL:=by
 refine ⟨fun a=>by simp [iL],fun a b h=>?_,fun a b=>?_,fun a b d h1 h2=>?_⟩
 ·unfold iL at h;split at h
  ·omega
  ·split at h<;>omega
 ·unfold iL;split<;>split<;>(try split)<;>omega
 ·unfold iL at *
  split at h1
  ·split at h2
   ·rw [if_pos (by omega)];omega
   ·split at h2<;>omega
  ·split at h1<;>omega
def nP {α:Type} (c:α->α->Int):List α->List α->Int
 | [],[]=>0
 | [],_::_ => -1
 | _::_,[]=>1
 | a::xs,b::ys=>if c a b≠0 then c a b else nP c xs ys
theorem Jj {α:Type} {c:α->α->Int} (h:AB c):AB (nP c):=by
 refine ⟨?_,?_,?_,?_⟩
 ·intro a
  induction a with
  | nil=>rfl
  | cons x a ih=>simp [nP,h.refl x,ih]
 ·intro a
  induction a with
  | nil=>intro b hb;cases b with
   | nil=>rfl
   | cons _ _=>simp [nP] at hb
  | cons x a ih =>
   intro b hb
   cases b with
   | nil=>simp [nP] at hb
   | cons y b =>
    unfold nP at hb
    split at hb
    ·rename_i h0;exact absurd hb h0
    ·rename_i h0
     have:=h.zero x y (by simpa using h0)
     subst this
     rw [ih b hb]
 ·intro a
  induction a with
  | nil=>intro b;cases b with
   | nil=>simp [nP]
   | cons _ _=>simp [nP]
  | cons x a ih =>
   intro b
   cases b with
   | nil=>simp [nP]
   | cons y b =>
    unfold nP
    by_cases h0:c x y=0
    ·have:=h.zero x y h0
     subst this
     simp only [h.refl,ne_eq,not_true_eq_false,if_false]
     exact ih b
    ·have h1:c y x≠0:=fun e=>h0 (by rw [h.zero y x e];exact h.refl x)
     rw [if_pos h0,if_pos h1]
     exact h.anti x y
 ·intro a
  induction a with
  | nil =>
   intro b d h1 h2
   cases b with
   | nil=>simp [nP] at h1
   | cons y b=>cases d with
    | nil=>simp [nP] at h2
    | cons _ _=>simp [nP]
  | cons x a ih =>
   intro b d h1 h2
   cases b with
   | nil=>simp [nP] at h1
   | cons y b =>
    cases d with
    | nil=>simp [nP] at h2
    | cons z d =>
     unfold nP at h1 h2 ⊢
     by_cases e1:c x y=0
     ·have:=h.zero x y e1
      subst this
      rw [if_neg (by simpa using e1)] at h1
      by_cases e2:c x z=0
      ·rw [if_neg (by simpa using e2)] at h2 ⊢
       exact ih b d h1 h2
      ·rw [if_pos e2] at h2 ⊢
       exact h2
     ·rw [if_pos e1] at h1
      by_cases e2:c y z=0
      ·have:=h.zero y z e2
       subst this
       rw [if_pos e1];exact h1
      ·rw [if_pos e2] at h2
       have:=h.trans x y z h1 h2
       rw [if_pos (by omega)];exact this
theorem oW : ∀ a b:List Val,dP a b=nP sG a b
 | [],[]=>rfl
 | [],_::_=>rfl
 | _::_,[]=>rfl
 | a::xs,b::ys=>by rw [dP,nP,oW xs ys]
def AJ (x y:UInt8):Int:=if x<y then -1 else if y<x then 1 else 0
theorem NK:AB AJ:=by
 have key : ∀ x y:UInt8,AJ x y=iL ((x.toNat:Nat):Int) ((y.toNat:Nat):Int):=by
  intro x y
  unfold AJ iL
  simp only [UInt8.lt_iff_toNat_lt,Int.ofNat_lt]
 refine ⟨fun a=>by rw [key];exact tCi_.refl _,fun a b h=>?_,fun a b=>by rw [key,key];exact tCi_.anti _ _,fun a b d h1 h2=>by rw [key] at *;exact tCi_.trans _ _ _ h1 h2⟩
 rw [key] at h
 have:=tCi_.zero _ _ h
 exact UInt8.toNat_inj.1 (by omega)
theorem zP : ∀ a b:List UInt8,Lib.compareBytes a b=nP AJ a b
 | [],[]=>rfl
 | [],_::_=>rfl
 | _::_,[]=>rfl
 | x::a,y::b=>by
  have e:nP AJ (x::a) (y::b)=if AJ x y≠0 then AJ x y else nP AJ a b:=rfl
  rw [e, <- zP a b]
  have e2:Lib.compareBytes (x::a) (y::b)=if x<y then -1 else if y<x then 1 else Lib.compareBytes a b:=by rw [Lib.compareBytes]
  rw [e2]
  by_cases h1:x<y
  ·simp [h1,AJ]
  ·by_cases h2:y<x
   ·simp [h1,h2,AJ]
   ·simp [h1,h2,AJ]
theorem uL:AB rQ:=by
 have key : ∀ a b:ByteArray,rQ a b=nP AJ a.data.toList b.data.toList:=by
  intro a b
  unfold rQ
  rw [Lib.cmp_eq,zP]
 have t:=Jj NK
 refine ⟨fun a=>by rw [key];exact t.refl _,fun a b h=>?_,fun a b=>by rw [key,key];exact t.anti _ _,fun a b d h1 h2=>by rw [key] at *;exact t.trans _ _ _ h1 h2⟩
 rw [key] at h
 have:=t.zero _ _ h
 obtain ⟨⟨a⟩⟩:=a
 obtain ⟨⟨b⟩⟩:=b
 simp at this
 rw [this]
theorem OL:AB sG:=by
 refine ⟨?_,?_,?_,?_⟩
 ·intro a;simp [sG,tCi_.refl,uL.refl]
 ·intro a b h
  obtain ⟨k,n,t⟩:=a
  obtain ⟨k',n',t'⟩:=b
  unfold sG at h
  dsimp only at h
  split at h
  ·rename_i e;exact absurd h e
  ·rename_i e1
   split at h
   ·rename_i e;exact absurd h e
   ·rename_i e2
    have k1:=tCi_.zero _ _ (show iL k k'=0 by simpa using e1)
    have k2:=tCi_.zero _ _ (show iL n n'=0 by simpa using e2)
    have k3:=uL.zero _ _ h
    subst k1 k2 k3;rfl
 ·intro a b
  unfold sG
  by_cases e1:iL a.kind b.kind=0
  ·have k:=tCi_.zero _ _ e1
   rw [k]
   simp only [tCi_.refl,ne_eq,not_true_eq_false,if_false]
   by_cases e2:iL a.int b.int=0
   ·have k2:=tCi_.zero _ _ e2
    rw [k2]
    simp only [tCi_.refl,ne_eq,not_true_eq_false,if_false]
    exact uL.anti _ _
   ·have e2':iL b.int a.int≠0:=fun e=>e2 (by rw [tCi_.zero _ _ e];exact tCi_.refl _)
    rw [if_pos e2,if_pos e2']
    exact tCi_.anti _ _
  ·have e1':iL b.kind a.kind≠0:=fun e=>e1 (by rw [tCi_.zero _ _ e];exact tCi_.refl _)
   rw [if_pos e1,if_pos e1']
   exact tCi_.anti _ _
 ·intro a b d h1 h2
  unfold sG at *
  by_cases e1:iL a.kind b.kind=0
  ·have k:=tCi_.zero _ _ e1
   rw [k] at h1 ⊢
   simp only [tCi_.refl,ne_eq,not_true_eq_false,if_false] at h1
   by_cases f1:iL b.kind d.kind=0
   ·rw [if_neg (by simpa using f1)] at h2 ⊢
    by_cases e2:iL a.int b.int=0
    ·have k2:=tCi_.zero _ _ e2
     rw [k2] at h1 ⊢
     simp only [tCi_.refl,ne_eq,not_true_eq_false,if_false] at h1
     by_cases f2:iL b.int d.int=0
     ·rw [if_neg (by simpa using f2)] at h2 ⊢
      exact uL.trans _ _ _ h1 h2
     ·rw [if_pos f2] at h2 ⊢;exact h2
    ·rw [if_pos e2] at h1
     by_cases f2:iL b.int d.int=0
     ·have k2:=tCi_.zero _ _ f2
      rw [<- k2,if_pos e2];exact h1
     ·rw [if_pos f2] at h2
      have:=tCi_.trans _ _ _ h1 h2
      rw [if_pos (by omega)];exact this
   ·rw [if_pos f1] at h2 ⊢;exact h2
  ·rw [if_pos e1] at h1
   by_cases f1:iL b.kind d.kind=0
   ·have k:=tCi_.zero _ _ f1
    rw [<- k,if_pos e1];exact h1
   ·rw [if_pos f1] at h2
    have:=tCi_.trans _ _ _ h1 h2
    rw [if_pos (by omega)];exact this
theorem tCr_:AB dP:=by
 have t:=Jj OL
 exact ⟨fun a=>by rw [oW];exact t.refl _,fun a b h=>t.zero _ _ (by rw [<- oW];exact h),fun a b=>by rw [oW,oW];exact t.anti _ _,fun a b d h1 h2=>by rw [oW] at *;exact t.trans _ _ _ h1 h2⟩
section
variable {α:Type} {c:α->α->Int}
def Asc (c:α->α->Int) (l:List α):Prop:=l.Pairwise fun a b=>c a b<=0
theorem AB.le_trans (h:AB c) {a b d:α} (h1:c a b<=0) (h2:c b d<=0):c a d<=0:=by
 by_cases e1:c a b=0
 ·rw [h.zero a b e1];exact h2
 ·by_cases e2:c b d=0
  ·rw [<- h.zero b d e2];exact h1
  ·have:=h.trans a b d (by omega) (by omega);omega
theorem B_ (h:AB c) : ∀ {l m:List α}, Asc c l->Asc c m->l.Perm m->l=m
 | [],m,_,_,hp=>by rw [List.Perm.nil_eq hp]
 | x::l,[],_,_,hp=>by have:=hp.length_eq;simp at this
 | x::l,y::m,hl,hm,hp=>by
  have hx:x∈y::m:=hp.mem_iff.1 (List.mem_cons_self ..)
  have hy:y∈x::l:=hp.mem_iff.2 (List.mem_cons_self ..)
  rw [Asc,List.pairwise_cons] at hl hm
  have e:x=y:=by
   rcases Zf.1 hx with e|hx
   ·exact e
   ·rcases Zf.1 hy with e|hy
    ·exact e.symm
    ·have h1:=hm.1 x hx
     have h2:=hl.1 y hy
     by_cases e0:c x y=0
     ·exact h.zero _ _ e0
     ·have:=(h.anti x y).1 (by omega);omega
  subst e
  rw [B_ h hl.2 hm.2 (List.Perm.cons_inv hp)]
end
theorem IZ (x y:Int):FH x y=some (iL x y):=by
 unfold FH DI iL
 by_cases h1:x<y
 ·simp [h1]
 ·by_cases h2:y<x
  ·simp [h1,h2]
  ·simp [h1,h2]
def Yj (_:Unit) (x:Int):Option (Sum Unit Int):=if x≠0 then some (.inr x) else some (.inl ())
theorem X_ (a b c:Int):VO [a,b,c]=some (if a≠0 then a else if b≠0 then b else c):=by
 unfold VO
 rw [bE (l:=[a,b,c]) (mk:=fun (_:Unit) i=>i) (f:=Yj) ?_ ?_ (by unfold fuel;simp) ()]
 ·unfold Yj
  by_cases h1:a=0
  ·by_cases h2:b=0
   ·by_cases h3:c=0
    ·simp [bU,DR,qQ,h1,h2,h3]
    ·simp [bU,DR,qQ,h1,h2,h3]
   ·simp [bU,DR,qQ,h1,h2]
  ·simp [bU,DR,qQ,h1]
 ·intro s i x hx
  have hi:i<3:=(YY.1 hx).1
  unfold HY Yj
  dsimp only
  rw [aU hx,Y0,gn_ hx]
  simp only [YX]
  rw [wrapN (by omega)]
  by_cases h:x=0
  ·simp [h,o7]
  ·simp [h,o7]
 ·intro s
  unfold HY
  dsimp only
  rw [lF_,YZ]
theorem xz (v w:Val):tJ v w=some (sG v w):=by
 unfold tJ
 rw [IZ,IZ]
 simp only [YX]
 rw [X_]
 rfl
theorem JZ : ∀ (b:List Val),dP [] b=if b=[] then 0 else -1
 | []=>rfl
 | _::_=>rfl
theorem ET {a b:List Val} (ha:a.length<=4000000000000) (hb:b.length<=4000000000000) : ∀ (n i:Nat),i<=a.length->i<=b.length->a.length-i<n->(ah (jY a b fun x0 x1=>tJ x0 x1) n (i:Int)).bind (fA a b)=some (dP (a.drop i) (b.drop i))
 | 0,_,_,_,h=>by omega
 | n+1,i,h1,h2,hn=>by
  rw [ah]
  by_cases hlt:i<a.length
  ·obtain ⟨x,hx⟩:=gol_ hlt
   have ex:=(YY.1 hx).2
   have eb:jY a b (fun x0 x1=>tJ x0 x1) (i:Int)=bif (decide (((b.length:Nat):Int)<=(i:Int))) then some (.ret (1:Int)) else (au b (i:Int)).bind fun x_5=>(tJ x x_5).bind fun r_6=>bif (decide (r_6≠(0:Int))) then some (.ret r_6) else some (.next (IntKind.i64.wrap ((i:Int)+(1:Int)))):=by
    unfold jY
    dsimp only
    rw [aU hx,Y0,gn_ hx]
    rfl
   rw [eb,Zv hlt,ex]
   by_cases hlb:i<b.length
   ·obtain ⟨y,hy⟩:=gol_ hlb
    have ey:=(YY.1 hy).2
    rw [Zv hlb,ey,show decide (((b.length:Nat):Int)<=(i:Int))=false from Y1 (by omega),YZ,gn_ hy,dP]
    simp only [YX,xz]
    by_cases h:sG x y=0
    ·simp only [h,ne_eq,not_true_eq_false,decide_false,YZ,if_false]
     rw [wrapN (by omega)]
     have k:=ET ha hb n (i+1) (by omega) (by omega) (by omega)
     simp only [xz] at k
     exact k
    ·simp [h,fA]
   ·have:i=b.length:=by omega
    subst this
    rw [ZO,show decide (((b.length:Nat):Int)<=((b.length:Nat):Int))=true from Y2 (by omega),Y0]
    rfl
  ·have:i=a.length:=by omega
   subst this
   have eb:jY a b (fun x0 x1=>tJ x0 x1) ((a.length:Nat):Int)=some (.exit ((a.length:Nat):Int)):=by
    unfold jY
    dsimp only
    rw [lF_,YZ]
   rw [eb,ZO,JZ]
   show fA a b (.inl ((a.length:Nat):Int))=_
   unfold fA
   by_cases h:a.length<b.length
   ·rw [show decide (((a.length:Nat):Int)<((b.length:Nat):Int))=true from Y2 (by omega),Y0,if_neg (by rw [List.drop_eq_nil_iff];omega)]
   ·rw [show decide (((a.length:Nat):Int)<((b.length:Nat):Int))=false from Y1 (by omega),YZ,if_pos (by rw [List.drop_eq_nil_iff];omega)]
theorem Qr (a b:List Val) (ha:a.length<=4000000000000) (hb:b.length<=4000000000000):D7 a b=some (dP a b):=by
 unfold D7 GK
 have:=ET ha hb fuel 0 (Zj _) (Zj _) (by unfold fuel;omega)
 rw [show (((0:Nat):Int))=0 from rfl] at this
 rw [this];rfl
theorem bytesLess_eq : ∀ a b:List UInt8,Op.bytesLess a b=decide (Lib.compareBytes a b<0)/\(a==b)=decide (Lib.compareBytes a b=0)
 | [],[]=>⟨rfl,rfl⟩
 | [],_::_=>⟨rfl,rfl⟩
 | _::_,[]=>⟨rfl,rfl⟩
 | x::a,y::b=>by
  have e2:Lib.compareBytes (x::a) (y::b)=if x<y then -1 else if y<x then 1 else Lib.compareBytes a b:=by rw [Lib.compareBytes]
  have e3:Op.bytesLess (x::a) (y::b)=(decide (x<y)||(x==y&&Op.bytesLess a b)):=by rw [Op.bytesLess]
  obtain ⟨i1,i2⟩:=bytesLess_eq a b
  rw [e2,e3,List.cons_beq_cons,i1,i2]
  by_cases h1:x<y
  ·have hne:x≠y:=fun e=>by rw [e] at h1;exact absurd h1 (UInt8.lt_irrefl y)
   simp [h1,hne]
  ·by_cases h2:y<x
   ·have hne:x≠y:=fun e=>by rw [e] at h2;exact absurd h2 (UInt8.lt_irrefl y)
    simp [h1,h2,hne]
   ·have heq:x=y:=UInt8.le_antisymm (UInt8.not_lt.1 h2) (UInt8.not_lt.1 h1)
    subst heq
    simp [h1]
theorem O1 (a b:ByteArray):Op.bytesLess a.toList b.toList=decide (rQ a b<0):=by
 unfold rQ
 rw [Lib.cmp_eq,ByteArray.toList_eq,ByteArray.toList_eq];exact (bytesLess_eq _ _).1
theorem Sa (a b:ByteArray):(a.toList==b.toList)=decide (rQ a b=0):=by
 unfold rQ
 rw [Lib.cmp_eq,ByteArray.toList_eq,ByteArray.toList_eq];exact (bytesLess_eq _ _).2
theorem mQ : ∀ a b:List UInt8,Lib.compareBytes a b = -1\/Lib.compareBytes a b=0\/Lib.compareBytes a b=1
 | [],[] => .inr (.inl rfl)
 | [],_::_ => .inl rfl
 | _::_,[] => .inr (.inr rfl)
 | x::a,y::b=>by
  have e2:Lib.compareBytes (x::a) (y::b)=if x<y then -1 else if y<x then 1 else Lib.compareBytes a b:=by rw [Lib.compareBytes]
  rw [e2]
  split
  ·exact .inl rfl
  ·split
   ·exact .inr (.inr rfl)
   ·exact mQ a b
theorem Cm (v w:Val):Ae v w=some (sG v w):=by
 unfold Ae sG EP
 rw [O1,Sa]
 have hr:rQ v.text w.text = -1\/rQ v.text w.text=0\/rQ v.text w.text=1:=by unfold rQ;rw [Lib.cmp_eq];exact mQ _ _
 by_cases h1:v.kind=w.kind
 ·have e1:iL v.kind w.kind=0:=by rw [h1];exact tCi_.refl _
  by_cases h2:v.int=w.int
  ·have e2:iL v.int w.int=0:=by rw [h2];exact tCi_.refl _
   rw [e1,e2]
   simp only [h1,h2,ne_eq,not_true_eq_false,decide_false,YZ,if_false]
   rcases hr with h|h|h<;>rw [h]<;>rfl
  ·have e2:iL v.int w.int≠0:=fun e=>h2 (tCi_.zero _ _ e)
   rw [e1]
   simp only [h1,h2,e2,ne_eq,not_true_eq_false,not_false_eq_true,decide_false,decide_true,YZ,Y0,if_false,if_true]
   unfold iL
   by_cases h3:v.int<w.int
   ·simp [h3]
   ·have:w.int<v.int:=by omega
    simp [h3,this]
 ·have e1:iL v.kind w.kind≠0:=fun e=>h1 (tCi_.zero _ _ e)
  simp only [h1,e1,ne_eq,not_true_eq_false,not_false_eq_true,decide_false,decide_true,YZ,Y0,if_false,if_true]
  unfold iL
  by_cases h3:v.kind<w.kind
  ·simp [h3]
  ·have:w.kind<v.kind:=by omega
   simp [h3,this]
def BN (B:List (List Val)) (x:List Val):Nat->Nat
 | 0=>0
 | j+1=>match B[j]? with
  | some y=>if dP x y<0 then BN B x j else j+1
  | none=>j+1
def Iu (B:List (List Val)) (x:List Val):List (List Val):=B.take (BN B x B.length)++x::B.drop (BN B x B.length)
def aT (l:List (List Val)):List (List Val):=l.foldl Iu []
theorem Fq (B:List (List Val)) (x:List Val) : ∀ j,j<=B.length->BN B x j<=j/\(∀ i y,BN B x j<=i->i<j->B[i]?=some y->dP x y<0)/\(∀ q,BN B x j=q+1 -> ∃ y,B[q]?=some y /\ ¬ dP x y<0)
 | 0,_=>⟨Ze _,fun i y _ h=>by omega,fun q h=>by simp [BN] at h⟩
 | j+1,hj=>by
  obtain ⟨y,hy⟩:=gol_ (show j<B.length by omega)
  have e:BN B x (j+1)=if dP x y<0 then BN B x j else j+1:=by rw [BN,hy]
  rw [e]
  by_cases h:dP x y<0
  ·rw [if_pos h]
   obtain ⟨h1,h2,h3⟩:=Fq B x j (by omega)
   refine ⟨by omega,fun i z hi hij hz=>?_,h3⟩
   by_cases hij':i<j
   ·exact h2 i z hi hij' hz
   ·have:i=j:=by omega
    subst this
    rw [hy] at hz
    obtain rfl:=Zw hz
    exact h
  ·rw [if_neg h]
   refine ⟨Ze _,fun i z hi hij=>by omega,fun q hq=>?_⟩
   obtain rfl:j=q:=by omega
   exact ⟨y,hy,h⟩
theorem Ol (B:List (List Val)) (x:List Val):(Iu B x).Perm (x::B):=by
 unfold Iu
 refine List.perm_middle.trans ?_
 rw [List.take_append_drop]
theorem Pp {B:List (List Val)} (x:List Val) (h:Asc dP B):Asc dP (Iu B x):=by
 obtain ⟨h1,h2,h3⟩:=Fq B x B.length (Ze _)
 unfold Iu
 generalize BN B x B.length=p at h1 h2 h3
 have hB:Asc dP (B.take p++B.drop p):=by rw [List.take_append_drop];exact h
 obtain ⟨ht,hd,hc⟩:=List.pairwise_append.1 hB
 have hx : ∀ b∈B.drop p,dP x b<=0:=by
  intro b hb
  obtain ⟨i,hi⟩:=List.getElem?_of_mem hb
  rw [ZJ] at hi
  have:=h2 (p+i) b (by omega) (YY.1 hi).1 hi
  omega
 have hl : ∀ a∈B.take p,dP a x<=0:=by
  intro a ha
  cases p with
  | zero=>simp at ha
  | succ q =>
   obtain ⟨y,hy,hn⟩:=h3 q rfl
   have hyx:dP y x<=0:=by
    have:=tCr_.anti x y
    have:=tCr_.anti y x
    omega
   have hq:q<B.length:=(YY.1 hy).1
   have ey:=(YY.1 hy).2
   rw [List.take_succ_eq_append_getElem hq,ey] at ha ht
   rcases Zq.1 ha with ha|ha
   ·exact tCr_.le_trans ((List.pairwise_append.1 ht).2.2 a ha y (by simp)) hyx
   ·obtain rfl:a=y:=by simpa using ha
    exact hyx
 refine List.pairwise_append.2 ⟨ht,List.pairwise_cons.2 ⟨hx,hd⟩,fun a ha b hb=>?_⟩
 rcases Zf.1 hb with rfl|hb
 ·exact hl a ha
 ·exact hc a ha b hb
theorem zD : ∀ (l B:List (List Val)),Asc dP B->Asc dP (l.foldl Iu B)/\(l.foldl Iu B).Perm (l++B)
 | [],B,h=>⟨h,List.Perm.refl _⟩
 | x::l,B,h=>by
  obtain ⟨h1,h2⟩:=zD l (Iu B x) (Pp x h)
  refine ⟨h1,h2.trans ?_⟩
  refine ((Ol B x).append_left l).trans ?_
  exact List.perm_middle
theorem Oz (l:List (List Val)):Asc dP (aT l):=(zD l [] List.Pairwise.nil).1
theorem dH (l:List (List Val)):(aT l).Perm l:=by
 have:=(zD l [] List.Pairwise.nil).2
 rwa [Zy] at this
theorem xZ {l r:List (List Val)} (h1:Asc dP r) (h2:r.Perm l):aT l=r:=B_ tCr_ (Oz l) h1 ((dH l).trans h2.symm)
def push {α β ρ:Type} (g:α->β) (N:Nat) (s:List β) (x:α):Option (Sum (List β) ρ):=bif decide (s.length+1<=N) then some (.inl (s++[g x])) else none
theorem u_ {α β ρ:Type} (g:α->β) (N:Nat) : ∀ (l:List α) (s:List β),s.length+l.length<=N->bU (ρ:=ρ) (push g N) s l=some (.inl (s++l.map g))
 | [],s,_=>by simp [bU]
 | x::l,s,h=>by
  have h':s.length+(l.length+1)<=N:=by simpa using h
  have e:push (ρ:=ρ) g N s x=some (.inl (s++[g x])):=by unfold push;rw [show decide (s.length+1<=N)=true from Y2 (by omega)];rfl
  rw [bU,e]
  have:=u_ (ρ:=ρ) g N l (s++[g x]) (by simp;omega)
  simpa using this
theorem GM {α σ ρ:Type} {f:σ->α->Option (Sum σ ρ)} : ∀ (l:List α) (s:σ),(∀ s x,x∈l -> ∃ r,f s x=some r) -> ∃ r,bU f s l=some r
 | [],s,_=>⟨_,rfl⟩
 | x::l,s,h=>by
  obtain ⟨r,hr⟩:=h s x (List.mem_cons_self ..)
  rw [bU,hr]
  cases r with
  | inl s'=>exact GM l s' fun s y hy=>h s y (Zm _ hy)
  | inr r=>exact ⟨_,rfl⟩
def oJ (n:Int):Val:=if -1125899906842624<=n/\n<=1125899906842624 then ⟨1,n,ByteArray.empty⟩ else ⟨0,0,ByteArray.empty⟩
theorem vM {s:ByteArray} (hs:s.size<=1000000) : ∀ (n i:Nat),i<=s.size->s.size-i<n -> ∃ r,(ah (ku s) n (i:Int)).bind dC=some r
 | 0,_,_,h=>by omega
 | n+1,i,h1,hn=>by
  rw [ah]
  unfold ku
  dsimp only
  by_cases hlt:i<s.size
  ·rw [show decide ((i:Int)<((s.size:Nat):Int))=true from Y2 (by omega),Y0]
   obtain ⟨b,hb⟩ : ∃ b,NE s (i:Int)=some b:=by
    unfold NE
    rw [if_pos (by omega)]
    exact ⟨s[i],by simp [hlt]⟩
   rw [hb]
   simp only [YX]
   cases decide (((b.toNat:Nat):Int)<32) with
   | true=>exact ⟨_,rfl⟩
   | false =>
    cases decide ((126:Int)<((b.toNat:Nat):Int)) with
    | true=>exact ⟨_,rfl⟩
    | false =>
     simp only [YZ]
     rw [wrapN (by omega)]
     exact vM hs n (i+1) (by omega) (by omega)
  ·rw [show decide ((i:Int)<((s.size:Nat):Int))=false from Y1 (by omega),YZ]
   exact ⟨_,rfl⟩
theorem Eh {s:ByteArray} (hs:s.size<=1000000) : ∃ r,nE s=some r:=by
 have:=vM hs fuel 0 (Zj _) (by unfold fuel;omega)
 rw [show (((0:Nat):Int))=0 from rfl] at this
 exact this
theorem DK (v:Val) : ∃ r,dx v=some r:=by
 unfold dx
 cases decide (v.kind=0) with
 | true=>cases decide (v.int=0)<;>exact ⟨_,rfl⟩
 | false =>
  cases decide (v.kind=1) with
  | true=>cases (v.text.toList==(⟨#[]⟩:ByteArray).toList)<;>cases decide ((-1125899906842624:Int)<=v.int)<;>exact ⟨_,rfl⟩
  | false =>
   cases decide (v.kind=2) with
   | true =>
    cases decide (v.int=0) with
    | false=>exact ⟨_,rfl⟩
    | true =>
     by_cases h:((v.text.size:Nat):Int)<=200
     ·obtain ⟨r,hr⟩:=Eh (s:=v.text) (by omega)
      rw [show decide (((v.text.size:Nat):Int)<=200)=true from Y2 h,hr]
      exact ⟨_,rfl⟩
     ·rw [show decide (((v.text.size:Nat):Int)<=200)=false from Y1 h]
      exact ⟨_,rfl⟩
   | false =>
    cases decide (v.kind=3) with
    | true=>cases (v.text.toList==(⟨#[]⟩:ByteArray).toList)<;>cases decide (v.int=0)<;>exact ⟨_,rfl⟩
    | false=>exact ⟨_,rfl⟩
theorem OA (row:List Val) (kinds:List Int) (h:row.length<=1000000) : ∃ r,qW row kinds=some r:=by
 unfold qW
 by_cases he:row.length=kinds.length
 ·rw [show decide (((row.length:Nat):Int)≠((kinds.length:Nat):Int))=false from Y1 (by omega),YZ]
  have hz:(row.zip kinds).length=row.length:=by simp;omega
  have k:=bE (l:=row.zip kinds) (body:=gV row kinds) (mk:=fun (_:Unit) i=>i) (f:=fun (_:Unit) (x:Val × Int)=>(dx x.1).bind fun r=>bif (!r) then some (.inr false) else bif decide (x.1.kind≠0) then bif decide (x.1.kind≠x.2) then some (.inr false) else some (.inl ()) else some (.inl ())) ?_ ?_ (by unfold fuel;omega) ()
  ·obtain ⟨r,hr⟩:=GM (σ:=Unit) (ρ:=Bool) (f:=fun (_:Unit) (x:Val × Int)=>(dx x.1).bind fun r=>bif (!r) then some (.inr false) else bif decide (x.1.kind≠0) then bif decide (x.1.kind≠x.2) then some (.inr false) else some (.inl ()) else some (.inl ())) (row.zip kinds) () (by
    intro s x _
    obtain ⟨r,hr⟩:=DK x.1
    rw [hr]
    cases r<;>cases decide (x.1.kind≠0)<;>cases decide (x.1.kind≠x.2)<;>exact ⟨_,rfl⟩)
   rw [k,hr]
   cases r with
   | inl _=>exact ⟨_,rfl⟩
   | inr _=>exact ⟨_,rfl⟩
  ·intro s i x hx
   obtain ⟨h1,h2⟩:=List.getElem?_zip_eq_some.1 hx
   have hi:i<row.length:=(YY.1 h1).1
   unfold gV
   dsimp only
   rw [aU h1,Y0,gn_ h1,gn_ h2]
   simp only [YX]
   rw [wrapN (by omega)]
   cases dx x.1 with
   | none=>rfl
   | some r=>cases r<;>cases decide (x.1.kind≠0)<;>cases decide (x.1.kind≠x.2)<;>rfl
  ·intro s
   unfold gV
   dsimp only
   rw [hz,lF_,YZ]
 ·rw [show decide (((row.length:Nat):Int)≠((kinds.length:Nat):Int))=true from Y2 (by omega)]
  exact ⟨_,rfl⟩
def X4 (a b:List Val):Bool:=decide (dP a b<0)
theorem WB:xG X4 (fun x:List Val=>x.length<=1000000):=by
 refine ⟨fun x _=>?_,fun x y z _ _ _ h1 h2=>?_,fun x y _ _ h1 h2=>?_⟩
 ·unfold X4
  rw [tCr_.refl];rfl
 ·exact Y2 (tCr_.trans _ _ _ (Zr h1) (Zr h2))
 ·have h1 : ¬ dP x y<0:=of_decide_eq_false h1
  have h2 : ¬ dP y x<0:=of_decide_eq_false h2
  refine tCr_.zero _ _ ?_
  have:=tCr_.anti x y
  have:=tCr_.anti y x
  omega
theorem Sq:nH D7 X4 (fun x:List Val=>x.length<=1000000):=fun x y hx hy=>⟨_,Qr x y (Nat.le_trans hx (by omega)) (Nat.le_trans hy (by omega)),rfl⟩
theorem Rp {l:List (List Val)} (hl:l.length<=100000000) (hr : ∀ x∈l,x.length<=1000000):yD l.length l D7=some (aT l):=by
 obtain ⟨r,h1,h2,h3⟩:=L9 WB Sq hl hr rfl
 rw [h1,xZ (r:=r) (h2.imp fun {a b} h=>?_) h3]
 have h : ¬ dP b a<0:=of_decide_eq_false h
 have:=tCr_.anti a b
 have:=tCr_.anti b a
 omega
def yJ (l:List (List Val)):Bool:=decide (l.length<=300)&&l.all fun r => !r.isEmpty&&decide (r.length<=1000000)
theorem Pj {l:List (List Val)} (h:yJ l=true):l.length<=300 /\ ∀ r∈l,r≠[]/\r.length<=1000000:=by
 unfold yJ at h
 rw [Zg,ZK] at h
 refine ⟨Zr h.1,fun r hr=>?_⟩
 have:=h.2 r hr
 rw [Zg] at this
 refine ⟨?_,Zr this.2⟩
 rintro rfl
 exact absurd this.1 (by decide)
theorem F9 {l:List (List Val)} (h:l.length<=300) (hr : ∀ r∈l,r≠[]/\r.length<=1000000):yJ l=true:=by
 unfold yJ
 rw [Zg,ZK]
 refine ⟨Y2 h,fun r hx=>?_⟩
 rw [Zg]
 refine ⟨?_,Y2 (hr r hx).2⟩
 cases r with
 | nil=>exact absurd rfl (hr [] hx).1
 | cons=>rfl
def yM (l:List (List Val)):Option (List (List Val)):=bif yJ l then some (aT l) else none
abbrev bX {α:Type} (enc:α->List AC) (k v:Nat) (X:List α):Ob := .row v ((X.map enc).map (List.map SV.c)) k
theorem JO {α:Type} (enc:α->List AC) (k v:Nat) (X:List α) (σ:List Nat):(bX enc k v X).ren σ=bX enc k v X:=by
 show Ob.row v (((X.map enc).map (List.map SV.c)).map (List.map (SV.ren σ))) k=_
 rw [List.map_map]
 congr 1
 refine List.map_congr_left fun e _=>?_
 show (e.map SV.c).map (SV.ren σ)=e.map SV.c
 rw [List.map_map]
 rfl
theorem aK {α:Type} (n:Nat) (enc:α->List AC) (k v:Nat) (X:List α):(bX enc k v X).below n:=jZ n v k enc X
theorem YR {α:Type} {enc:α->List AC} {k v:Nat} {X:List α} {L:List Ob} {args:List AV} (h0:L[0]?=some (bX enc k v X)) (hx : ∀ y∈args,y.below 1):jD [0] [bX enc k v X] args L:=by
 refine ⟨rfl,by simp,fun i y hy=>?_,cu ⟨aK _ _ _ _ _,trivial⟩,hx⟩
 match i,hy with
 | 0,hy=>simp only [List.getElem?_cons_zero,Option.some.injEq] at hy;subst hy;rw [JO];exact h0
 | i+1,hy=>simp at hy
theorem jX {α:Type} {enc:α->List AC} {k v:Nat} {X:List α} {L L':List Ob} (h:L.set 0 (bX enc k v X)=L'):joinL [0] L [bX enc k v X]=L':=by
 subst h
 simp only [joinL,join,lm,eU,zk,Y9,Zd,JO]
 simp
section
variable {P:Program} {ti:TI} {N:Nat} {ds:List (Option Tmp)} {K:Tm->List Ob->Prop} {rest:List Oper} {o:Oper} {T:Tm} {L:List Ob}
theorem r_ {α:Type} {enc:α->List AC} {X Y:List α} {g:FuncId} {asx args:List AV} {v k d:Nat} (hd:o.dst=some d) (hN:Nat.blt d N=true) (hg:iR ds T o.guard=some true) (hp:eO ti (look T) o.op=some (g,asx)) (hL:L[0]?=some (bX enc k v X)) (h:aM P ti N ds K rest ((d, .tup [])::T) (L.set 0 (bX enc k v Y)))
  (hc:Run P g [bX enc k v X] args [bX enc k v Y] (.tup []):=by assumption) (ha:asx=args.map (AV.ren [0]):=by rfl) (hb : ∀ y∈args,y.below 1:=by refine nK ?_;repeat' (first|refine ⟨?_,?_⟩|exact trivial|exact YE)):aM P ti N ds K (o::rest) T L :=
 cZ [0] hd hN hg hp hc ha (YR hL hb) rfl (jX rfl) h
theorem Wy {α:Type} {enc:α->List AC} {X:List α} {x:α} {t:TypeId} {p:Operand} {id ver i k d:Nat} (hd:o.dst=some d) (hN:Nat.blt d N=true) {g0:Bool} (hg:iR ds T o.guard=some g0) (ho:o.op = .load t p) (hp:look T p=some (.one (.ep id ver i 0))) (hL:L[id]?=some (bX enc k ver X)) (ha:ti.agg t=some true) (hn:ti.size t=some k) (hk : ∀ x,(enc x).length=k)
  (h:aM P ti N ds K rest ((d, .agg ((enc x).map SV.c))::T) L) (hx:X[i]?=some x:=by assumption) (hg1:g0=true:=by first|rfl|exact ll (by first|assumption|exact lG (by assumption))|exact lg (by first|assumption|exact lH (by assumption))):aM P ti N ds K (o::rest) T L:=by
 subst hg1
 have hl:((enc x).map SV.c).length=k:=by rw [Y_,hk]
 refine Sg hd hN hg ho hp hL ha hn (e:=(enc x).map SV.c) ?_ (by rw [List.drop_zero, <- hl,List.take_length]) (by omega) h
 rw [Zl,Zl,hx];rfl
theorem VY {α:Type} {enc:α->List AC} {X:List α} {x:α} {y:AC} {t:TypeId} {p:Operand} {id ver i k d:Nat} (hd:o.dst=some d) (hN:Nat.blt d N=true) {g0:Bool} (hg:iR ds T o.guard=some g0) (ho:o.op = .load t p) (hp:look T p=some (.one (.ep id ver i 0))) (hL:L[id]?=some (bX enc k ver X)) (ha:ti.agg t=some false)
  (h:aM P ti N ds K rest ((d, .one (.c y))::T) L) (hx:X[i]?=some x:=by assumption) (hy:enc x=[y]:=by rfl) (hg1:g0=true:=by first|rfl|exact ll (by first|assumption|exact lG (by assumption))|exact lg (by first|assumption|exact lH (by assumption))):aM P ti N ds K (o::rest) T L:=by
 subst hg1
 refine Vd hd hN hg ho hp hL ha (e:=(enc x).map SV.c) (x := .c y) ?_ (by rw [hy];rfl) h
 rw [Zl,Zl,hx];rfl
end
theorem lu {α β:Type} {X:List α} {i:Int} {k:α->Option β} {r:β} (H:(au X i).bind k=some r) : ∃ x,X[0+i.toNat]?=some x/\k x=some r:=by
 obtain ⟨x,h,K⟩:=bd_ H
 obtain ⟨h0,h1⟩:=uV h
 exact ⟨x,by rw [ZG];exact h1,K⟩
theorem vC {p q:Prop} (k:q) (h:Bx q->p:=by
 intro hq
 repeat' (first
  | refine r_ rfl rfl rfl rfl rfl ?_|refine Wy rfl rfl rfl rfl rfl rfl rfl rfl (fun _=>rfl) ?_|refine VY rfl rfl rfl rfl rfl rfl rfl ?_|refine Bg rfl rfl rfl rfl rfl (by omega) rfl (fun _=>rfl) rfl ?_|refine p_ rfl rfl rfl rfl rfl ?_|refine st_nil ?_|refine x_ rfl rfl rfl rfl rfl rfl rfl rfl ?_|refine l_ rfl rfl rfl rfl ?_|refine s_ rfl rfl rfl ?_|refine t_ rfl rfl rfl rfl ?_|refine k_ rfl rfl rfl ?_|refine k0_ rfl rfl ?_|refine c_ rfl rfl rfl rfl ?_|refine pick_t rfl rfl rfl rfl rfl rfl rfl ?_|refine pick_f rfl rfl rfl rfl rfl rfl rfl ?_|refine aw_seq ?_|refine aw_region af _ rfl ?_|refine aw_drawn2 bC _ rfl mixed (by decide +kernel) ?_|refine aw_condT rfl ?_|refine aw_condF rfl ?_|refine aw_block ?_|refine aw_exit ?_|refine aw_ret ?_|refine aw_skip ?_|rw [Y_]|rw [mn_norm]|rw [mx_norm])
 exact hq.out):p:=h ⟨k⟩
theorem jh {p:Prop} (h:p:=by
 repeat' (first
  | refine r_ rfl rfl rfl rfl rfl ?_|refine Wy rfl rfl rfl rfl rfl rfl rfl rfl (fun _=>rfl) ?_|refine VY rfl rfl rfl rfl rfl rfl rfl ?_|refine Bg rfl rfl rfl rfl rfl (by omega) rfl (fun _=>rfl) rfl ?_|refine p_ rfl rfl rfl rfl rfl ?_|refine st_nil ?_|refine x_ rfl rfl rfl rfl rfl rfl rfl rfl ?_|refine l_ rfl rfl rfl rfl ?_|refine s_ rfl rfl rfl ?_|refine t_ rfl rfl rfl rfl ?_|refine k_ rfl rfl rfl ?_|refine k0_ rfl rfl ?_|refine c_ rfl rfl rfl rfl ?_|refine pick_t rfl rfl rfl rfl rfl rfl rfl ?_|refine pick_f rfl rfl rfl rfl rfl rfl rfl ?_|refine aw_seq ?_|refine aw_region af _ rfl ?_|refine aw_drawn2 bC _ rfl mixed (by decide +kernel) ?_|refine aw_condT rfl ?_|refine aw_condF rfl ?_|refine aw_block ?_|refine aw_exit ?_|refine aw_ret ?_|refine aw_skip ?_|rw [Y_]|rw [mn_norm]|rw [mx_norm])
 first
  | exact ⟨.inl rfl,⟨.inr ⟨.tup [],⟨trivial,rfl⟩,rfl⟩,⟨[],rfl⟩,by simp,cu ⟨aK _ _ _ _ _,trivial⟩,trivial⟩⟩
  | exact ⟨.inr rfl,⟨.inr ⟨.tup [],⟨trivial,rfl⟩,rfl⟩,⟨[],rfl⟩,by simp,cu ⟨aK _ _ _ _ _,trivial⟩,trivial⟩⟩):p:=h
end Go.Proofs.YtnbnpnmkgemdeaaGreatDoor
