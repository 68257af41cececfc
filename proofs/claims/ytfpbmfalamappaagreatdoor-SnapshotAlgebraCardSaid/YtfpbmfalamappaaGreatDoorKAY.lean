/- Parts of the proof, joined. No condition. -/
import Derived.Test.YtfpbmfalamappaaGreatDoorKAA
import Derived.Test.YtfpbmfalamappaaGreatDoorKAX
import Derived.Test.YtfpbmfalamappaaGreatDoorKAR
import Derived.Test.YtfpbmfalamappaaGreatDoorKAJ
set_option linter.unusedSimpArgs false
set_option linter.unusedVariables false
namespace Go.Proofs.YtfpbmfalamappaaGreatDoor
open Go.RowKit Go.MapKept
set_option maxRecDepth 100000
section
variable {α:Type} {lt:α->α->Bool} {S:α->Prop} {cmp:α->α->Option Int}
theorem Ad {β:Type} {body:Int × Int->Option (Step (Int × Int) β)} (lo hi:Nat) (p:Nat->Bool) (hB : ∀ i j:Nat,lo<=i->i<j->j<=hi->body ((i:Int),(j:Int))=some (.next (bif p ((i+j)/2) then ((((i+j)/2+1:Nat):Int),(j:Int)) else ((i:Int),(((i+j)/2:Nat):Int))))) (hE : ∀ i:Nat,body ((i:Int),(i:Int))=some (.exit ((i:Int),(i:Int)))) :
  ∀ (N i j:Nat),lo<=i->i<=j->j<=hi->j-i<N->(i=lo\/p (i-1)=true)->(j=hi\/p j=false) -> ∃ s:Nat,ax body N ((i:Int),(j:Int))=some (.inl ((s:Int),(s:Int)))/\lo<=s/\s<=hi/\(s=lo\/p (s-1)=true)/\(s=hi\/p s=false)
 | 0,i,j,_,_,_,h,_,_=>by omega
 | N+1,i,j,h1,h2,h3,hN,hi1,hj1=>by
  rw [ax]
  by_cases he:i=j
  ·subst he
   rw [hE]
   exact ⟨i,rfl,h1,h3,hi1,hj1⟩
  ·rw [hB i j h1 (by omega) h3]
   cases hp:p ((i+j)/2) with
   | true =>
    rw [aa']
    exact Ad lo hi p hB hE N ((i+j)/2+1) j (by omega) (by omega) h3 (by omega) (.inr (by rw [Nat.add_sub_cancel];exact hp)) hj1
   | false =>
    rw [aa_]
    exact Ad lo hi p hB hE N i ((i+j)/2) h1 (by omega) (by omega) (by omega) hi1 (.inr hp)
theorem U9 {n:Nat} (hn2:n<=1000000000) (x:α) (Q:List α) (i:Nat) : ∀ (B P:List α) (N:Nat),P.length+B.length+1=i->(P++x::(B++Q)).length=n->B.length<N -> ∃ k,ax (oW n (i:Int)) N (P++x::(B++Q),(P.length:Int))=some (.inl (P++(B++x::Q),k))
 | B,P,0,_,_,hN=>by omega
 | [],P,N+1,hi,hn,hN=>by
  simp only [abF,Nat.add_zero] at hi
  have hn':=hn
  simp only [abg,abw] at hn'
  subst hi
  rw [ax]
  have hb:oW n ((P.length+1:Nat):Int) (P++x::([]++Q),(P.length:Int))=some (.exit (P++x::([]++Q),(P.length:Int))):=by
   unfold oW
   dsimp only
   rw [YC _ (by omega) (by omega),aba (by omega),aa_]
  rw [hb]
  exact ⟨_,rfl⟩
 | y::B,P,N+1,hi,hn,hN=>by
  simp only [abw] at hi hN
  have hn':=hn
  simp only [abg,abw] at hn'
  have g1:(P++x::(y::B++Q))[P.length]?=some x:=get_at _ _ _
  have g2:(P++x::(y::B++Q))[P.length+1]?=some y:=DX P [] (B++Q) x y
  rw [ax]
  have hb:oW n (i:Int) (P++x::(y::B++Q),(P.length:Int))=some (.next ((P++[y])++x::(B++Q),(((P++[y]).length:Nat):Int))):=by
   unfold oW
   dsimp only
   rw [YC _ (by omega) (by omega),wrapN (by omega)]
   have s2:=Qg (f:=fun z:α=>z) P [] (B++Q) x y
   rw [List.map_id',List.map_id',abF,Nat.add_zero] at s2
   have s3:((P++x::(y::B++Q)).set P.length y).set (P.length+1) x=P++y::x::(B++Q):=s2
   simp only [abb (show (P.length:Int)<((i-1:Nat):Int) by omega),Nk,JD (show P.length+1<n by omega),JD (show P.length<n by omega),aa',gn_ g1,gn_ g2,aa8,Qz,List.length_set,abb (show P.length+1<(P++x::(y::B++Q)).length by rw [hn];omega),abb (show P.length<(P++x::(y::B++Q)).length by rw [hn];omega),s3]
   simp
  rw [hb]
  obtain ⟨k,hk⟩:=U9 hn2 x Q i B (P++[y]) N (by simp;omega) (by rw [<- hn];simp only [abg,abw,abF];omega) (by omega)
  exact ⟨k,by show ax _ N _=_;rw [hk];simp⟩
theorem Ve {n:Nat} (hn2:n<=1000000000) (x:α) (P:List α) : ∀ (l:Nat) (A Q:List α) (N:Nat),A.length=l->(P++(A++x::Q)).length=n->l<N -> ∃ k,ax (o6 n (P.length:Int)) N (P++(A++x::Q),((P.length+l:Nat):Int))=some (.inl (P++x::(A++Q),k))
 | l,A,Q,0,_,_,hN=>by omega
 | 0,A,Q,N+1,hl,hn,hN=>by
  have:A=[]:=abL.1 hl
  subst this
  rw [ax]
  have hb:o6 n (P.length:Int) (P++([]++x::Q),((P.length+0:Nat):Int))=some (.exit (P++([]++x::Q),((P.length+0:Nat):Int))):=by
   unfold o6
   dsimp only
   rw [aba (by omega),aa_]
  rw [hb]
  exact ⟨_,rfl⟩
 | l+1,A,Q,N+1,hl,hn,hN=>by
  obtain ⟨L,y,rfl⟩ : ∃ L y,A=L++[y]:=by
   rcases List.eq_nil_or_concat A with e|⟨L,y,e⟩
   ·subst e;simp at hl
   ·exact ⟨L,y,by simpa using e⟩
  have hL:L.length=l:=by simp at hl;exact hl
  have hn':=hn
  simp only [abg,abw,abF] at hn'
  have e1:P++((L++[y])++x::Q)=(P++L)++y::([]++x::Q):=by simp
  have g1:(P++((L++[y])++x::Q))[P.length+l]?=some y:=by rw [e1, <- hL, <- abg];exact get_at _ _ _
  have g2:(P++((L++[y])++x::Q))[P.length+(l+1)]?=some x:=by
   have:=DX (P++L) [] Q y x
   rw [<- e1] at this
   rwa [show (P++L).length+1+([]:List α).length=P.length+(l+1) by simp;omega] at this
  rw [ax]
  have hb:o6 n (P.length:Int) (P++((L++[y])++x::Q),((P.length+(l+1):Nat):Int))=some (.next (P++(L++x::(y::Q)),((P.length+l:Nat):Int))):=by
   unfold o6
   dsimp only
   rw [YC _ (by omega) (by omega),show P.length+(l+1)-1=P.length+l by omega]
   have s2:=Qg (f:=fun z:α=>z) (P++L) [] Q y x
   rw [List.map_id',List.map_id', <- e1,show (P++L).length=P.length+l by simp;omega,abF,show P.length+l+1+0=P.length+(l+1) by omega,List.set_comm _ _ (by omega)] at s2
   simp only [abb (show (P.length:Int)<((P.length+(l+1):Nat):Int) by omega),Nk,JD (show P.length+(l+1)<n by omega),JD (show P.length+l<n by omega),aa',gn_ g1,gn_ g2,aa8,Qz,List.length_set,abb (show P.length+(l+1)<(P++((L++[y])++x::Q)).length by rw [hn];omega),abb (show P.length+l<(P++((L++[y])++x::Q)).length by rw [hn];omega),s2]
   simp
  rw [hb]
  obtain ⟨k,hk⟩:=Ve hn2 x P l L (y::Q) N hL (by rw [<- hn];simp) (by omega)
  exact ⟨k,by show ax _ N _=_;rw [hk];simp⟩
theorem wu {l:List α} {s:Nat} (h:s<=l.length) : ∃ a b,l=a++b/\a.length=s:=⟨l.take s,l.drop s,(abU _ _).symm,by rw [abY];omega⟩
theorem Ed {A:List α} (h:0<A.length) : ∃ L y,A=L++[y]:=by
 rcases List.eq_nil_or_concat A with e|⟨L,y,e⟩
 ·subst e;simp at h
 ·exact ⟨L,y,by simpa using e⟩
theorem DL {A:List α} (h:0<A.length) : ∃ y L,A=y::L:=match A,h with|y::L,_=>⟨y,L,rfl⟩
def ZZ (lt:α->α->Bool) (D:List α) (x:α) (i:Nat):Bool:=match D[i]? with|some y=>lt y x|none=>false
def p3F (lt:α->α->Bool) (D:List α) (x:α) (i:Nat):Bool:=match D[i]? with|some y => !lt x y|none=>false
def p5F (lt:α->α->Bool) (D:List α) (p i:Nat):Bool:=match D[p-i]?,D[i]? with|some x,some y => !lt x y|_,_=>false
theorem Wj (h:Ay lt S) (hc:oH cmp lt S) {n:Nat} (hn2:n<=1000000000) {P Q B:List α} {x:α} (sx:S x) (sB : ∀ z∈B,S z) (hB:eQ lt B) (hn:(P++x::(B++Q)).length=n) :
  ∃ M,((ax (rU (P++x::(B++Q)) (P.length:Int) cmp n) fuel (((P.length+1:Nat):Int),((P.length+1+B.length:Nat):Int))).bind (uY (P++x::(B++Q)) (P.length:Int) n))=some (P++(M++Q))/\eQ lt M/\M.Perm (x::B):=by
 have hn':=hn
 simp only [abg,abw] at hn'
 have gx:(P++x::(B++Q))[P.length]?=some x:=get_at _ _ _
 have gB : ∀ i y,B[i]?=some y->(P++x::(B++Q))[P.length+1+i]?=some y:=by
  intro i y hy
  have hi:=(aa9.1 hy).1
  rw [abf (by omega),show P.length+1+i-P.length=i+1 by omega,List.getElem?_cons_succ,abn hi]
  exact hy
 obtain ⟨s,hs,s1,s2,s3,s4⟩:=Ad (body:=rU (P++x::(B++Q)) (P.length:Int) cmp n) (P.length+1) (P.length+1+B.length) (ZZ lt (P++x::(B++Q)) x) (by
  intro i j hi hij hj
  obtain ⟨y,hy⟩:=gol_ (l:=B) (i:=(i+j)/2-(P.length+1)) (by omega)
  have gy:=gB _ _ hy
  rw [show P.length+1+((i+j)/2-(P.length+1))=(i+j)/2 by omega] at gy
  obtain ⟨r,hr,hr2⟩:=hc y x (sB y (abe hy)) sx
  unfold rU
  dsimp only
  rw [BL (by omega),wrapN (by omega)]
  simp only [JD hij,Nk,JD (show (i+j)/2<n by omega),JD (show P.length<n by omega),aa',gn_ gy,gn_ gx,aa8,hr,hr2]
  unfold ZZ
  rw [gy]
  dsimp only
  cases lt y x<;>rfl) (by
  intro i
  unfold rU
  dsimp only
  rw [aba (by omega),aa_]) fuel (P.length+1) (P.length+1+B.length) (abp _) (by omega) (abp _) (by unfold fuel;omega) (.inl rfl) (.inl rfl)
 rw [hs,aa8]
 obtain ⟨B1,B2,rfl,hB1⟩:=wu (l:=B) (s:=s-(P.length+1)) (by omega)
 unfold uY
 dsimp only
 have e1:P++x::(B1++B2++Q)=P++x::(B1++(B2++Q)):=by simp
 rw [e1]
 obtain ⟨k,hk⟩:=U9 hn2 x (B2++Q) s B1 P fuel (by omega) (by rw [<- e1];exact hn) (by simp at hn';unfold fuel;omega)
 rw [hk]
 refine ⟨B1++x::B2,by show some (P++(B1++x::(B2++Q)))=_;simp,Ei h sx sB hB ?_ ?_,List.perm_middle⟩
 ·by_cases h0:0<B1.length
  ·obtain ⟨L,y,rfl⟩:=Ed h0
   refine .inr ⟨L,y,rfl,?_⟩
   have sy:=sB y (by simp)
   rcases s3 with e|e
   ·simp at hB1;omega
   ·have gy:=gB (s-1-(P.length+1)) y (by
     have:(L++[y]).length=s-(P.length+1):=hB1
     simp at this
     rw [abB,abf (by omega),show s-1-(P.length+1)-L.length=0 by omega];rfl)
    rw [show P.length+1+(s-1-(P.length+1))=s-1 by simp at hB1;omega] at gy
    unfold ZZ at e
    rw [gy] at e
    exact h.le_of sy sx e
  ·exact .inl (abL.1 (by omega))
 ·by_cases h0:0<B2.length
  ·obtain ⟨z,L,rfl⟩:=DL h0
   refine .inr ⟨z,L,rfl,?_⟩
   rcases s4 with e|e
   ·simp at e;omega
   ·have gz:=gB (s-(P.length+1)) z (by rw [<- hB1];exact get_at _ _ _)
    rw [show P.length+1+(s-(P.length+1))=s by omega] at gz
    unfold ZZ at e
    rw [gz] at e
    exact e
  ·exact .inl (abL.1 (by omega))
theorem Vu (h:Ay lt S) (hc:oH cmp lt S) {n:Nat} (hn2:n<=1000000000) {P Q A:List α} {x:α} (sx:S x) (sA : ∀ z∈A,S z) (hA:eQ lt A) (hn:(P++(A++x::Q)).length=n) :
  ∃ M,((ax (rQ (P++(A++x::Q)) ((P.length+A.length:Nat):Int) cmp n) fuel ((P.length:Int),((P.length+A.length:Nat):Int))).bind (vJ (P++(A++x::Q)) ((P.length+A.length:Nat):Int) n))=some (P++(M++Q))/\eQ lt M/\M.Perm (A++[x]):=by
 have hn':=hn
 simp only [abg,abw] at hn'
 have gx:(P++(A++x::Q))[P.length+A.length]?=some x:=by rw [<- abB, <- abg];exact get_at _ _ _
 have gA : ∀ i y,A[i]?=some y->(P++(A++x::Q))[P.length+i]?=some y:=by
  intro i y hy
  have hi:=(aa9.1 hy).1
  rw [abf (by omega),show P.length+i-P.length=i by omega,abn hi]
  exact hy
 obtain ⟨s,hs,s1,s2,s3,s4⟩:=Ad (body:=rQ (P++(A++x::Q)) ((P.length+A.length:Nat):Int) cmp n) P.length (P.length+A.length) (p3F lt (P++(A++x::Q)) x) (by
  intro i j hi hij hj
  obtain ⟨y,hy⟩:=gol_ (l:=A) (i:=(i+j)/2-P.length) (by omega)
  have gy:=gA _ _ hy
  rw [show P.length+((i+j)/2-P.length)=(i+j)/2 by omega] at gy
  obtain ⟨r,hr,hr2⟩:=hc x y sx (sA y (abe hy))
  unfold rQ
  dsimp only
  rw [BL (by omega),wrapN (by omega)]
  simp only [JD hij,Nk,JD (show (i+j)/2<n by omega),JD (show P.length+A.length<n by omega),aa',gn_ gy,gn_ gx,aa8,hr,hr2]
  unfold p3F
  rw [gy]
  dsimp only
  cases lt x y<;>rfl) (by
  intro i
  unfold rQ
  dsimp only
  rw [aba (by omega),aa_]) fuel P.length (P.length+A.length) (abp _) (by omega) (abp _) (by unfold fuel;omega) (.inl rfl) (.inl rfl)
 rw [hs,aa8]
 obtain ⟨A1,A2,rfl,hA1⟩:=wu (l:=A) (s:=s-P.length) (by omega)
 unfold vJ
 dsimp only
 have e1:P++(A1++A2++x::Q)=(P++A1)++(A2++x::Q):=by simp
 have hlA:(P++A1).length=s:=by simp;omega
 rw [e1, <- hlA]
 have hl2:P.length+(A1++A2).length=(P++A1).length+A2.length:=by simp;omega
 rw [hl2]
 obtain ⟨k,hk⟩:=Ve hn2 x (P++A1) A2.length A2 Q fuel rfl (by rw [<- e1];exact hn) (by simp at hn';unfold fuel;omega)
 rw [hk]
 refine ⟨A1++x::A2,by show some ((P++A1)++x::(A2++Q))=_;simp,Ei h sx sA hA ?_ ?_,?_⟩
 ·by_cases h0:0<A1.length
  ·obtain ⟨L,y,rfl⟩:=Ed h0
   refine .inr ⟨L,y,rfl,?_⟩
   rcases s3 with e|e
   ·simp at hA1;omega
   ·have gy:=gA (s-1-P.length) y (by
     have:(L++[y]).length=s-P.length:=hA1
     simp at this
     rw [abB,abf (by omega),show s-1-P.length-L.length=0 by omega];rfl)
    rw [show P.length+(s-1-P.length)=s-1 by simp at hA1;omega] at gy
    unfold p3F at e
    rw [gy] at e
    simpa using e
  ·exact .inl (abL.1 (by omega))
 ·by_cases h0:0<A2.length
  ·obtain ⟨z,L,rfl⟩:=DL h0
   refine .inr ⟨z,L,rfl,?_⟩
   have sz:=sA z (by simp)
   rcases s4 with e|e
   ·simp at e hA1;omega
   ·have gz:=gA (s-P.length) z (by rw [<- hA1];exact get_at _ _ _)
    rw [show P.length+(s-P.length)=s by omega] at gz
    unfold p3F at e
    rw [gz] at e
    exact h.le_of sx sz (by simpa using e)
  ·exact .inl (abL.1 (by omega))
 ·rw [abB]
  refine List.Perm.append_left A1 ?_
  exact (List.perm_append_comm (l₁:=[x]) (l₂:=A2))
end
set_option maxHeartbeats 4000000
section
variable {α:Type} {lt:α->α->Bool} {S:α->Prop} {cmp:α->α->Option Int}
def Ku (rec:Nat->List α->Int->Int->Int->(α->α->Option Int)->Option (List α)) (cmp:α->α->Option Int) (n:Nat) (D:List α) (a s m e mid b:Int):Option (List α) :=
 (bif decide (s<m)&&decide (m<e) then pY n D s m e cmp else some D).bind fun c1 =>
 (bif decide (a<s)&&decide (s<mid) then rec n c1 a s mid cmp else some c1).bind fun c2 =>
 (bif decide (mid<e)&&decide (e<b) then rec n c2 mid e b cmp else some c2).bind fun c3=>some c3
theorem UR (rec:Nat->List α->Int->Int->Int->(α->α->Option Int)->Option (List α)) (n:Nat) (D:List α) (a m b s:Int):lX D a m b cmp n rec (.inl (s,s))=Ku rec cmp n D a s m (IntKind.i64.wrap ((IntKind.i64.wrap ((bW (IntKind.i64.wrap (a+b)))+m))-s)) (bW (IntKind.i64.wrap (a+b))) b:=by
 unfold lX Ku
 dsimp only
 generalize bW (IntKind.i64.wrap (a+b))=mid
 generalize IntKind.i64.wrap (IntKind.i64.wrap (mid+m)-s)=e
 generalize decide (s<m)=d1
 generalize decide (m<e)=d2
 generalize decide (a<s)=d3
 generalize decide (s<mid)=d4
 generalize decide (mid<e)=d5
 generalize decide (e<b)=d6
 cases d1<;>cases d2<;>cases d3<;>cases d4<;>cases d5<;>cases d6<;>rfl
theorem Zv (D:List α) (a m b:Int) (n:Nat):zG D a m b cmp n=mi D a m b cmp n:=rfl
theorem YK (rec:Nat->List α->Int->Int->Int->(α->α->Option Int)->Option (List α)) (D:List α) (a m b:Int) (n:Nat):uZ D a m b cmp n rec=lX D a m b cmp n rec:=by
 funext q
 cases q<;>rfl
theorem PE (h:Ay lt S) (hc:oH cmp lt S) {n:Nat} (hn2:n<=1000000000) {D:List α} (hD:D.length=n) (hS : ∀ z∈D,S z) {a m b lo hi:Nat} (hab:a<m/\m<b/\b<=n) (hlh:lo<=hi) (hlo:a<=lo) (hhi:hi<=m) (hlo2:(a+b)/2+m<=lo+b) (hhi2:hi+a<=(a+b)/2+m ) (hhi3:hi<=(a+b)/2) (hlo3:m<=(a+b)/2+m-hi) :
  ∃ s:Nat,ax (mi D (a:Int) (m:Int) (b:Int) cmp n) fuel ((lo:Int),(hi:Int))=some (.inl ((s:Int),(s:Int)))/\lo<=s/\s<=hi/\(s=lo \/ ∃ x y,D[s-1]?=some x/\D[(a+b)/2+m-s]?=some y/\lt y x=false)/\(s=hi \/ ∃ x y,D[(a+b)/2+m-1-s]?=some x/\D[s]?=some y/\lt x y=true):=by
 obtain ⟨s,hs,s1,s2,s3,s4⟩:=Ad (body:=mi D (a:Int) (m:Int) (b:Int) cmp n) lo hi (p5F lt D ((a+b)/2+m-1)) (by
  intro i j hi1 hij hj
  obtain ⟨x,hx⟩:=gol_ (l:=D) (i:=(a+b)/2+m-1-(i+j)/2) (by omega)
  obtain ⟨y,hy⟩:=gol_ (l:=D) (i:=(i+j)/2) (by omega)
  obtain ⟨r,hr,hr2⟩:=hc x y (hS x (abe hx)) (hS y (abe hy))
  unfold mi
  dsimp only
  rw [BL (i:=i) (j:=j) (by omega),BL (i:=a) (j:=b) (by omega),Ti ((a+b)/2) m (by omega),YC _ (by omega) (by omega),QU ((a+b)/2+m-1) ((i+j)/2) (by omega) (by omega),wrapN (by omega)]
  simp only [JD hij,Nk,JD (show (i+j)/2<n by omega),JD (show (a+b)/2+m-1-(i+j)/2<n by omega),aa',gn_ hx,gn_ hy,aa8,hr,hr2]
  unfold p5F
  rw [hx,hy]
  dsimp only
  cases lt x y<;>rfl) (by
  intro i
  unfold mi
  dsimp only
  rw [aba (by omega),aa_]) fuel lo hi (abp _) hlh (abp _) (by unfold fuel;omega) (.inl rfl) (.inl rfl)
 refine ⟨s,hs,s1,s2,?_,?_⟩
 ·rcases s3 with e|e
  ·exact .inl e
  ·by_cases hsl:s=lo
   ·exact .inl hsl
   ·refine .inr ?_
    obtain ⟨x,hx⟩:=gol_ (l:=D) (i:=s-1) (by omega)
    obtain ⟨y,hy⟩:=gol_ (l:=D) (i:=(a+b)/2+m-s) (by omega)
    unfold p5F at e
    rw [show (a+b)/2+m-1-(s-1)=(a+b)/2+m-s by omega,hy,hx] at e
    exact ⟨x,y,hx,hy,by simpa using e⟩
 ·by_cases hsh:s=hi
  ·exact .inl hsh
  ·rcases s4 with e|e
   ·exact .inl e
   ·refine .inr ?_
    obtain ⟨x,hx⟩:=gol_ (l:=D) (i:=(a+b)/2+m-1-s) (by omega)
    obtain ⟨y,hy⟩:=gol_ (l:=D) (i:=s) (by omega)
    unfold p5F at e
    rw [hx,hy] at e
    exact ⟨x,y,hx,hy,by simpa using e⟩
theorem DY (h:Ay lt S) (hc:oH cmp lt S) {n:Nat} (hn2:n<=1000000000) : ∀ (q:Nat) (P A B Q:List α),A.length+B.length<=q->0<A.length->0<B.length->(∀ z∈P++(A++(B++Q)),S z)->eQ lt A->eQ lt B->(P++(A++(B++Q))).length=n ->
  ∃ M,Hg q n (P++(A++(B++Q))) (P.length:Int) ((P.length+A.length:Nat):Int) ((P.length+A.length+B.length:Nat):Int) cmp=some (P++(M++Q))/\eQ lt M/\M.Perm (A++B)
 | 0,P,A,B,Q,hq,hA,hB,_,_,_,_=>by omega
 | q+1,P,A,B,Q,hq,hA,hB,hS,aA,aB,hn=>by
  have hn':=hn
  simp only [abg] at hn'
  have sA : ∀ z∈A,S z:=fun z hz=>hS z (by simp [hz])
  have sB : ∀ z∈B,S z:=fun z hz=>hS z (by simp [hz])
  show ∃ M,ut (Hg q) n (P++(A++(B++Q))) (P.length:Int) ((P.length+A.length:Nat):Int) ((P.length+A.length+B.length:Nat):Int) cmp=some (P++(M++Q))/\_
  unfold ut
  rw [QU (P.length+A.length) P.length (by omega) (by omega),QU (P.length+A.length+B.length) (P.length+A.length) (by omega) (by omega),show P.length+A.length-P.length=A.length by omega,show P.length+A.length+B.length-(P.length+A.length)=B.length by omega]
  by_cases c1:A.length=1
  ·obtain ⟨x,rfl⟩ : ∃ x,A=[x]:=match A,c1 with|[x],_=>⟨x,rfl⟩
   rw [abb (show (([x]:List α).length:Int)=1 from rfl),aa']
   obtain ⟨M,k1,k2,k3⟩:=Wj h hc hn2 (P:=P) (Q:=Q) (sA x (by simp)) sB aB hn
   exact ⟨M,k1,k2,k3⟩
  ·rw [aba (show ¬ (A.length:Int)=1 by omega),aa_]
   by_cases c2:B.length=1
   ·obtain ⟨x,rfl⟩ : ∃ x,B=[x]:=match B,c2 with|[x],_=>⟨x,rfl⟩
    rw [abb (show (([x]:List α).length:Int)=1 from rfl),aa']
    obtain ⟨M,k1,k2,k3⟩:=Vu h hc hn2 (P:=P) (Q:=Q) (sB x (by simp)) sA aA hn
    exact ⟨M,k1,k2,k3⟩
   ·rw [aba (show ¬ (B.length:Int)=1 by omega),aa_,BL (by omega)]
    have hD:(P++(A++(B++Q))).length=n:=hn
    have gA : ∀ i y,A[i]?=some y->(P++(A++(B++Q)))[P.length+i]?=some y:=by
     intro i y hy
     have hi:=(aa9.1 hy).1
     rw [abf (by omega),show P.length+i-P.length=i by omega,abn hi]
     exact hy
    have gB : ∀ i y,B[i]?=some y->(P++(A++(B++Q)))[P.length+A.length+i]?=some y:=by
     intro i y hy
     have hi:=(aa9.1 hy).1
     rw [abf (by omega),abf (by omega),show P.length+A.length+i-P.length-A.length=i by omega,abn hi]
     exact hy
    generalize hmid:(P.length+(P.length+A.length+B.length))/2=mid

    have key : ∃ s:Nat,((bif decide (((mid:Nat):Int)<((P.length+A.length:Nat):Int)) then (ax (mi (P++(A++(B++Q))) (P.length:Int) ((P.length+A.length:Nat):Int) ((P.length+A.length+B.length:Nat):Int) cmp n) fuel ((IntKind.i64.wrap ((IntKind.i64.wrap (((mid:Nat):Int)+((P.length+A.length:Nat):Int)))-((P.length+A.length+B.length:Nat):Int))),((mid:Nat):Int))).bind (lX (P++(A++(B++Q))) (P.length:Int) ((P.length+A.length:Nat):Int) ((P.length+A.length+B.length:Nat):Int) cmp n (Hg q)) else
      (ax (zG (P++(A++(B++Q))) (P.length:Int) ((P.length+A.length:Nat):Int) ((P.length+A.length+B.length:Nat):Int) cmp n) fuel ((P.length:Int),((P.length+A.length:Nat):Int))).bind (uZ (P++(A++(B++Q))) (P.length:Int) ((P.length+A.length:Nat):Int) ((P.length+A.length+B.length:Nat):Int) cmp n (Hg q))))=lX (P++(A++(B++Q))) (P.length:Int) ((P.length+A.length:Nat):Int) ((P.length+A.length+B.length:Nat):Int) cmp n (Hg q) (.inl ((s:Int),(s:Int))) /\
      P.length<=s/\s<=P.length+A.length/\P.length+A.length<=mid+(P.length+A.length)-s/\mid+(P.length+A.length)-s<=P.length+A.length+B.length/\s<=mid+(P.length+A.length) /\
      (s=P.length\/mid+(P.length+A.length)-s=P.length+A.length+B.length \/ ∃ x y,(P++(A++(B++Q)))[s-1]?=some x/\(P++(A++(B++Q)))[mid+(P.length+A.length)-s]?=some y/\lt y x=false) /\
      (mid+(P.length+A.length)-s=P.length+A.length\/s=P.length+A.length \/ ∃ x y,(P++(A++(B++Q)))[mid+(P.length+A.length)-1-s]?=some x/\(P++(A++(B++Q)))[s]?=some y/\lt x y=true):=by
     by_cases hm:mid<P.length+A.length
     ·rw [abb (show ((mid:Nat):Int)<((P.length+A.length:Nat):Int) by omega),aa',Ti mid (P.length+A.length) (by omega),QU (mid+(P.length+A.length)) (P.length+A.length+B.length) (by omega) (by omega)]
      obtain ⟨s,hs,s1,s2,s3,s4⟩:=PE h hc hn2 hD hS (a:=P.length) (m:=P.length+A.length) (b:=P.length+A.length+B.length) (lo:=mid+(P.length+A.length)-(P.length+A.length+B.length)) (hi:=mid) (by omega) (by omega) (by omega) (by omega) (by omega) (by omega) (by omega) (by omega)
      rw [hs,aa8]
      rw [hmid] at s3 s4
      refine ⟨s,rfl,by omega,by omega,by omega,by omega,by omega,?_,?_⟩
      ·rcases s3 with e|e
       ·exact .inr (.inl (by omega))
       ·exact .inr (.inr e)
      ·rcases s4 with e|e
       ·exact .inl (by omega)
       ·exact .inr (.inr e)
     ·rw [aba (show ¬ ((mid:Nat):Int)<((P.length+A.length:Nat):Int) by omega),aa_,Zv,YK]
      obtain ⟨s,hs,s1,s2,s3,s4⟩:=PE h hc hn2 hD hS (a:=P.length) (m:=P.length+A.length) (b:=P.length+A.length+B.length) (lo:=P.length) (hi:=P.length+A.length) (by omega) (by omega) (by omega) (by omega) (by omega) (by omega) (by omega) (by omega)
      rw [hs,aa8]
      rw [hmid] at s3 s4
      refine ⟨s,rfl,by omega,by omega,by omega,by omega,by omega,?_,?_⟩
      ·rcases s3 with e|e
       ·exact .inl e
       ·exact .inr (.inr e)
      ·rcases s4 with e|e
       ·exact .inr (.inl e)
       ·exact .inr (.inr e)
    obtain ⟨s,hk,s1,s2,s3,s4,s4b,s5,s6⟩:=key
    rw [hk,UR,BL (by omega),hmid,Ti mid (P.length+A.length) (by omega),QU (mid+(P.length+A.length)) s s4b (by omega)]
    obtain ⟨A1,A2,rfl,hA1⟩:=wu (l:=A) (s:=s-P.length) (by omega)
    obtain ⟨B1,B2,rfl,hB1⟩:=wu (l:=B) (s:=mid+(P.length+(A1++A2).length)-s-(P.length+(A1++A2).length)) (by omega)
    simp only [abg] at hk s1 s2 s3 s4 s4b s5 s6 hA hB hq c1 c2 hmid hB1 hn' ⊢
    have eS:s=P.length+A1.length:=by omega
    have eE:mid+(P.length+(A1.length+A2.length))-s=P.length+(A1.length+A2.length)+B1.length:=by omega
    have eM:mid=P.length+A1.length+B1.length:=by omega

    have h1:A1=[]\/B2=[] \/ ∃ A' x y B',A1=A'++[x]/\B2=y::B'/\lt y x=false:=by
     by_cases z1:0<A1.length
     ·by_cases z2:0<B2.length
      ·obtain ⟨A',x,rfl⟩:=Ed z1
       obtain ⟨y,B',rfl⟩:=DL z2
       refine .inr (.inr ⟨A',x,y,B',rfl,rfl,?_⟩)
       simp only [abg,abw,abF] at *
       rcases s5 with e|e|⟨x',y',e1,e2,e3⟩
       ·omega
       ·omega
       ·have g1:=gA A'.length x (by simp)
        have g2:=gB B1.length y (by simp)
        rw [show P.length+A'.length=s-1 by omega,e1] at g1
        try simp only [abg,abw,abF] at g2
        rw [show P.length+(A'.length+(0+1)+A2.length)+B1.length=mid+(P.length+(A'.length+(0+1)+A2.length))-s by omega,e2] at g2
        rw [<- abH g1, <- abH g2];exact e3
      ·exact .inr (.inl (abL.1 (by omega)))
     ·exact .inl (abL.1 (by omega))
    have h2:B1=[]\/A2=[] \/ ∃ A' x y B',B1=A'++[x]/\A2=y::B'/\lt y x=false:=by
     by_cases z1:0<B1.length
     ·by_cases z2:0<A2.length
      ·obtain ⟨B',x,rfl⟩:=Ed z1
       obtain ⟨y,A',rfl⟩:=DL z2
       refine .inr (.inr ⟨B',x,y,A',rfl,rfl,?_⟩)
       have sx:=sB x (by simp)
       have sy:=sA y (by simp)
       simp only [abg,abw,abF] at *
       rcases s6 with e|e|⟨x',y',e1,e2,e3⟩
       ·omega
       ·omega
       ·have g1:=gB B'.length x (by simp)
        have g2:=gA A1.length y (by simp)
        try simp only [abg,abw,abF] at g1
        rw [show P.length+(A1.length+(A'.length+1))+B'.length=mid+(P.length+(A1.length+(A'.length+1)))-1-s by omega,e1] at g1
        rw [<- eS,e2] at g2
        rw [abH g1,abH g2] at e3
        exact h.le_of sx sy e3
      ·exact .inr (.inl (abL.1 (by omega)))
     ·exact .inl (abL.1 (by omega))
    have pA:=List.pairwise_append.1 aA
    have pB:=List.pairwise_append.1 aB

    unfold Ku
    rw [eE,eS,eM]
    have r1:(bif decide (((P.length+A1.length:Nat):Int)<((P.length+(A1.length+A2.length):Nat):Int))&&decide (((P.length+(A1.length+A2.length):Nat):Int)<((P.length+(A1.length+A2.length)+B1.length:Nat):Int)) then pY n (P++(A1++A2++(B1++B2++Q))) ((P.length+A1.length:Nat):Int) ((P.length+(A1.length+A2.length):Nat):Int) ((P.length+(A1.length+A2.length)+B1.length:Nat):Int) cmp else some (P++(A1++A2++(B1++B2++Q))))=some (P++(A1++(B1++(A2++(B2++Q))))):=by
     have e0:P++(A1++A2++(B1++B2++Q))=(P++A1)++(A2++(B1++(B2++Q))):=by simp
     by_cases z1:0<A2.length
     ·by_cases z2:0<B1.length
      ·rw [abb (by omega),abb (by omega),Bool.and_self,aa']
       have hr:=Ov hn2 (P:=P++A1) (A:=A2) (B:=B1) (Q:=B2++Q) cmp z1 z2 (by rw [<- e0];exact hn)
       rw [e0]
       simp only [abg] at hr
       rw [show P.length+(A1.length+A2.length)=P.length+A1.length+A2.length by omega,hr]
       simp
      ·have:B1=[]:=abL.1 (by omega)
       subst this
       rw [show decide (((P.length+(A1.length+A2.length):Nat):Int)<((P.length+(A1.length+A2.length)+([]:List α).length:Nat):Int))=false from aba (by simp),Bool.and_false,aa_]
       simp
     ·have:A2=[]:=abL.1 (by omega)
      subst this
      rw [show decide (((P.length+A1.length:Nat):Int)<((P.length+(A1.length+([]:List α).length):Nat):Int))=false from aba (by simp),Bool.false_and,aa_]
      simp
    rw [r1,aa8]
    have r2 : ∃ M1,(bif decide ((P.length:Int)<((P.length+A1.length:Nat):Int))&&decide (((P.length+A1.length:Nat):Int)<((P.length+A1.length+B1.length:Nat):Int)) then Hg q n (P++(A1++(B1++(A2++(B2++Q))))) (P.length:Int) ((P.length+A1.length:Nat):Int) ((P.length+A1.length+B1.length:Nat):Int) cmp else some (P++(A1++(B1++(A2++(B2++Q))))))=some (P++(M1++(A2++(B2++Q))))/\eQ lt M1/\M1.Perm (A1++B1):=by
     by_cases z1:0<A1.length
     ·by_cases z2:0<B1.length
      ·rw [abb (by omega),abb (by omega),Bool.and_self,aa']
       exact DY h hc hn2 q P A1 B1 (A2++(B2++Q)) (by omega) z1 z2 (fun z hz=>hS z (by simp only [abC] at hz ⊢;rcases hz with hz|hz|hz|hz|hz|hz<;>simp [hz])) pA.1 pB.1 (by rw [<- hn];simp only [abg];omega)
      ·have:B1=[]:=abL.1 (by omega)
       subst this
       rw [show decide (((P.length+A1.length:Nat):Int)<((P.length+A1.length+([]:List α).length:Nat):Int))=false from aba (by simp),Bool.and_false,aa_]
       exact ⟨A1,by simp,pA.1,by simp⟩
     ·have:A1=[]:=abL.1 (by omega)
      subst this
      rw [show decide ((P.length:Int)<((P.length+([]:List α).length:Nat):Int))=false from aba (by simp),Bool.false_and,aa_]
      exact ⟨B1,by simp,pB.1,by simp⟩
    obtain ⟨M1,r2,m1,p1⟩:=r2
    rw [r2,aa8]
    have hM1:M1.length=A1.length+B1.length:=by rw [p1.length_eq,abg]
    have r3 : ∃ M2,(bif decide (((P.length+A1.length+B1.length:Nat):Int)<((P.length+(A1.length+A2.length)+B1.length:Nat):Int))&&decide (((P.length+(A1.length+A2.length)+B1.length:Nat):Int)<((P.length+(A1.length+A2.length)+(B1.length+B2.length):Nat):Int)) then Hg q n (P++(M1++(A2++(B2++Q)))) ((P.length+A1.length+B1.length:Nat):Int) ((P.length+(A1.length+A2.length)+B1.length:Nat):Int) ((P.length+(A1.length+A2.length)+(B1.length+B2.length):Nat):Int) cmp else some (P++(M1++(A2++(B2++Q)))))=some (P++(M1++(M2++Q)))/\eQ lt M2/\M2.Perm (A2++B2):=by
     by_cases z1:0<A2.length
     ·by_cases z2:0<B2.length
      ·rw [abb (by omega),abb (by omega),Bool.and_self,aa']
       obtain ⟨M2,k1,k2,k3⟩:=DY h hc hn2 q (P++M1) A2 B2 Q (by omega) z1 z2 (fun z hz=>by
        simp only [abC] at hz
        rcases hz with (hz|hz)|hz|hz|hz
        ·exact hS z (by simp [hz])
        ·have:=p1.mem_iff.1 hz
         simp only [abC] at this
         rcases this with hz|hz<;>exact hS z (by simp [hz])
        ·exact hS z (by simp [hz])
        ·exact hS z (by simp [hz])
        ·exact hS z (by simp [hz])) pA.2.1 pB.2.1 (by rw [<- hn];simp only [abg];omega)
       refine ⟨M2,?_,k2,k3⟩
       simp only [abg,hM1] at k1
       rw [show P.length+A1.length+B1.length=P.length+(A1.length+B1.length) by omega,show P.length+(A1.length+A2.length)+B1.length=P.length+(A1.length+B1.length)+A2.length by omega,show P.length+(A1.length+A2.length)+(B1.length+B2.length)=P.length+(A1.length+B1.length)+A2.length+B2.length by omega]
       have e0:P++(M1++(A2++(B2++Q)))=(P++M1)++(A2++(B2++Q)):=by simp
       rw [e0,k1]
       simp
      ·have:B2=[]:=abL.1 (by omega)
       subst this
       rw [show decide (((P.length+(A1.length+A2.length)+B1.length:Nat):Int)<((P.length+(A1.length+A2.length)+(B1.length+([]:List α).length):Nat):Int))=false from aba (by simp),Bool.and_false,aa_]
       exact ⟨A2,by simp,pA.2.1,by simp⟩
     ·have:A2=[]:=abL.1 (by omega)
      subst this
      rw [show decide (((P.length+A1.length+B1.length:Nat):Int)<((P.length+(A1.length+([]:List α).length)+B1.length:Nat):Int))=false from aba (by simp),Bool.false_and,aa_]
      exact ⟨B2,by simp,pB.2.1,by simp⟩
    obtain ⟨M2,r3,m2,p2⟩:=r3
    rw [r3]
    refine ⟨M1++M2,by simp,Oc h (fun z hz=>?_) aA aB h1 h2 m1 m2 p1 p2,Lg p1 p2⟩
    simp only [abC] at hz
    rcases hz with (hz|hz)|hz|hz<;>exact hS z (by simp [hz])
end
set_option maxHeartbeats 4000000
section
variable {α:Type} {lt:α->α->Bool} {S:α->Prop} {cmp:α->α->Option Int}
inductive Rn (lt:α->α->Bool) (bs:Nat):List α->Prop
 | last {A:List α} : A.length<=bs->eQ lt A->Rn lt bs A
 | cons {A R:List α} : A.length=bs->eQ lt A->Rn lt bs R->Rn lt bs (A++R)
inductive Fu (lt:α->α->Bool) (bs:Nat):List α->Prop
 | nil:Fu lt bs []
 | snoc {P A:List α} : Fu lt bs P->A.length=bs->eQ lt A->Fu lt bs (P++A)
theorem Fu.rn {bs:Nat} {P:List α} (h:Fu lt bs P) : ∀ {R:List α}, Rn lt bs R->Rn lt bs (P++R):=by
 induction h with
 | nil=>intro R h;exact h
 | @snoc P A _ hl ha ih =>
  intro R h
  rw [abB]
  exact ih (.cons hl ha h)
theorem Rn.asc {bs:Nat} {l:List α} (h:Rn lt bs l) (hb:0<bs) (hl:l.length<=bs):eQ lt l:=by
 cases h with
 | last _ ha=>exact ha
 | @cons A R h1 h2 h3 =>
  have:R=[]:=abL.1 (by rw [abg] at hl;omega)
  subst this
  rw [abJ];exact h2
theorem Pw (h:Ay lt S) (hc:oH cmp lt S) {n:Nat} (hn2:n<=100000000) : ∀ (N:Nat) (P R:List α),Fu lt 20 P->(∀ z∈P++R,S z)->(P++R).length=n->R.length<N ->
  ∃ P' R' b,ax (jB (n:Int) cmp n) N (P++R,(P.length:Int),((P.length+20:Nat):Int))=some (.inl (P'++R',(P'.length:Int),b))/\Fu lt 20 P'/\R'.length<20/\(P'++R').Perm (P++R)
 | 0,P,R,_,_,_,hN=>by omega
 | N+1,P,R,hF,hS,hn,hN=>by
  have hn':=hn
  rw [abg] at hn'
  rw [ax]
  by_cases hb:P.length+20<=n
  ·obtain ⟨M,R1,rfl,hM⟩:=wu (l:=R) (s:=20) (by omega)
   rw [abg] at hn' hN
   obtain ⟨M',k1,k2,k3⟩:=CS h hc (n:=n) (by omega) (P:=P) (M:=M) (Q:=R1) (fun z hz=>hS z (by simp [hz])) hn
   have hM':M'.length=20:=by rw [k3.length_eq,hM]
   have hB:jB (n:Int) cmp n (P++(M++R1),(P.length:Int),((P.length+20:Nat):Int))=some (.next ((P++M')++R1,(((P++M').length:Nat):Int),(((P++M').length+20:Nat):Int))):=by
    unfold jB
    dsimp only
    rw [abb (show ((P.length+20:Nat):Int)<=(n:Int) by omega),aa', <- hM,k1,aa8,hM,show IntKind.i64.wrap (((P.length+20:Nat):Int)+20)=((P.length+20+20:Nat):Int) from Ti _ 20 (by omega)]
    simp [hM']
   rw [hB]
   obtain ⟨P',R',b,q1,q2,q3,q4⟩:=Pw h hc hn2 N (P++M') R1 (.snoc hF hM' k2) (fun z hz=>by
    simp only [abC] at hz
    rcases hz with (hz|hz)|hz
    ·exact hS z (by simp [hz])
    ·exact hS z (by simp [k3.mem_iff.1 hz])
    ·exact hS z (by simp [hz])) (by rw [abg,abg];omega) (by omega)
   refine ⟨P',R',b,q1,q2,q3,q4.trans ?_⟩
   rw [abB]
   exact (k3.append_right R1).append_left P
  ·have hB:jB (n:Int) cmp n (P++R,(P.length:Int),((P.length+20:Nat):Int))=some (.exit (P++R,(P.length:Int),((P.length+20:Nat):Int))):=by
    unfold jB
    dsimp only
    rw [aba (by omega),aa_]
   rw [hB]
   exact ⟨P,R,_,rfl,hF,by omega, .refl _⟩
theorem QJ (h:Ay lt S) (hc:oH cmp lt S) {n bs:Nat} (hn2:n<=100000000) (hb:0<bs) (hb2:bs<=n) : ∀ (N:Nat) (P R:List α),Fu lt (2*bs) P->Rn lt bs R->(∀ z∈P++R,S z)->(P++R).length=n->R.length<N ->
  ∃ P' R' b,ax (jC (n:Int) cmp n (bs:Int)) N (P++R,(P.length:Int),((P.length+2*bs:Nat):Int))=some (.inl (P'++R',(P'.length:Int),b))/\Fu lt (2*bs) P'/\Rn lt bs R'/\R'.length<2*bs/\(P'++R').Perm (P++R)
 | 0,P,R,_,_,_,_,hN=>by omega
 | N+1,P,R,hF,hR,hS,hn,hN=>by
  have hn':=hn
  rw [abg] at hn'
  rw [ax]
  by_cases hle:P.length+2*bs<=n
  ·
   obtain ⟨A,B,Q,rfl,hA,hB,aA,aB,hQ⟩ : ∃ A B Q,R=A++(B++Q)/\A.length=bs/\B.length=bs/\eQ lt A/\eQ lt B/\Rn lt bs Q:=by
    cases hR with
    | last h1 _=>omega
    | @cons A R1 h1 h2 h3 =>
     rw [abg] at hn'
     cases h3 with
     | last g1 g2=>exact ⟨A,R1,[],by rw [abJ],h1,by omega,h2,g2, .last (abv _) List.Pairwise.nil⟩
     | @cons B R2 g1 g2 g3=>exact ⟨A,B,R2,rfl,h1,g1,h2,g2,g3⟩
   rw [abg,abg] at hn' hN
   obtain ⟨M,k1,k2,k3⟩:=DY h hc (n:=n) (by omega) fuel P A B Q (by unfold fuel;omega) (by omega) (by omega) hS aA aB hn
   have hM:M.length=2*bs:=by rw [k3.length_eq,abg];omega
   have hBo:jC (n:Int) cmp n (bs:Int) (P++(A++(B++Q)),(P.length:Int),((P.length+2*bs:Nat):Int))=some (.next ((P++M)++Q,(((P++M).length:Nat):Int),(((P++M).length+2*bs:Nat):Int))):=by
    unfold jC
    dsimp only
    rw [hA,hB,show P.length+bs+bs=P.length+2*bs by omega] at k1
    rw [abb (show ((P.length+2*bs:Nat):Int)<=(n:Int) by omega),aa',Ti P.length bs (by omega),k1,aa8,show IntKind.i64.wrap ((2:Int)*(bs:Int))=((2*bs:Nat):Int) by rw [bJ (by omega)];omega,Ti _ (2*bs) (by omega)]
    simp [hM]
   rw [hBo]
   obtain ⟨P',R',b,q1,q2,q3,q4,q5⟩:=QJ h hc hn2 hb hb2 N (P++M) Q (.snoc hF hM k2) hQ (fun z hz=>by
    simp only [abC] at hz
    rcases hz with (hz|hz)|hz
    ·exact hS z (by simp [hz])
    ·have:=k3.mem_iff.1 hz;simp only [abC] at this
     rcases this with hz|hz<;>exact hS z (by simp [hz])
    ·exact hS z (by simp [hz])) (by rw [abg,abg];omega) (by omega)
   refine ⟨P',R',b,q1,q2,q3,q4,q5.trans ?_⟩
   rw [abB]
   refine List.Perm.append_left P ?_
   rw [<- abB]
   exact k3.append_right Q
  ·have hBo:jC (n:Int) cmp n (bs:Int) (P++R,(P.length:Int),((P.length+2*bs:Nat):Int))=some (.exit (P++R,(P.length:Int),((P.length+2*bs:Nat):Int))):=by
    unfold jC
    dsimp only
    rw [aba (by omega),aa_]
   rw [hBo]
   exact ⟨P,R,_,rfl,hF,hR,by omega, .refl _⟩
theorem M4 (h:Ay lt S) (hc:oH cmp lt S) {n bs:Nat} (hn2:n<=100000000) (hb:0<bs) (hb2:bs<n) {c:List α} (hR:Rn lt bs c) (hS : ∀ z∈c,S z) (hn:c.length=n) : ∃ c',jA (n:Int) cmp n (c,(bs:Int))=some (.next (c',((2*bs:Nat):Int)))/\Rn lt (2*bs) c'/\c'.Perm c:=by
 obtain ⟨P,R,b,q1,q2,q3,q4,q5⟩:=QJ h hc hn2 hb (by omega) fuel [] c .nil hR hS hn (by unfold fuel;omega)
 rw [abd] at q1 q5
 have hl:=q5.length_eq
 rw [abg,hn] at hl
 have e2:IntKind.i64.wrap ((2:Int)*(bs:Int))=((2*bs:Nat):Int):=by rw [bJ (by omega)];omega
 have e3:IntKind.i64.wrap ((bs:Int)*2)=((2*bs:Nat):Int):=by rw [bJ (by omega)];omega
 simp only [abF,abR] at q1
 unfold jA
 dsimp only
 rw [abb (show (bs:Int)<(n:Int) by omega),aa',e2]
 rw [show ((0:Nat):Int)=0 from rfl] at q1
 rw [q1,aa8]
 unfold tu
 dsimp only
 rw [Ti P.length bs (by omega),e3]
 have hS' : ∀ z∈P++R,S z:=fun z hz=>hS z (q5.mem_iff.1 hz)
 by_cases hlt:P.length+bs<n
 ·rw [abb (show ((P.length+bs:Nat):Int)<(n:Int) by omega),aa']
  obtain ⟨A,B,rfl,hA,hB,aA,aB⟩ : ∃ A B,R=A++B/\A.length=bs/\0<B.length/\eQ lt A/\eQ lt B:=by
   cases q3 with
   | last h1 _=>omega
   | @cons A R1 h1 h2 h3 =>
    rw [abg] at hl q4
    exact ⟨A,R1,rfl,h1,by omega,h2,h3.asc hb (by omega)⟩
  rw [abg] at hl q4
  obtain ⟨M,k1,k2,k3⟩:=DY h hc (n:=n) (by omega) fuel P A B [] (by unfold fuel;omega) (by omega) hB (by simpa using hS') aA aB (by rw [abJ,abg,abg];omega)
  have hM:M.length=A.length+B.length:=by rw [k3.length_eq,abg]
  rw [hA,show P.length+bs+B.length=n by omega,abJ] at k1
  rw [k1,aa8,abJ]
  exact ⟨P++M,rfl,q2.rn (.last (by omega) k2),(k3.append_left P).trans q5⟩
 ·rw [aba (show ¬ ((P.length+bs:Nat):Int)<(n:Int) by omega),aa_]
  exact ⟨P++R,rfl,q2.rn (.last (by omega) (q3.asc hb (by omega))),q5⟩
theorem QK (h:Ay lt S) (hc:oH cmp lt S) {n:Nat} (hn2:n<=100000000) : ∀ (N bs:Nat) (c:List α),0<bs->bs<=2*n+20->Rn lt bs c->(∀ z∈c,S z)->c.length=n->n-bs<N ->
  ∃ c' b,ax (jA (n:Int) cmp n) N (c,(bs:Int))=some (.inl (c',b))/\eQ lt c'/\c'.Perm c
 | 0,bs,c,_,_,_,_,_,hN=>by omega
 | N+1,bs,c,hb,hb2,hR,hS,hn,hN=>by
  rw [ax]
  by_cases hlt:bs<n
  ·obtain ⟨c',k1,k2,k3⟩:=M4 h hc hn2 hb hlt hR hS hn
   rw [k1]
   obtain ⟨c2,b,q1,q2,q3⟩:=QK h hc hn2 N (2*bs) c' (by omega) (by omega) k2 (fun z hz=>hS z (k3.mem_iff.1 hz)) (by rw [k3.length_eq];exact hn) (by omega)
   exact ⟨c2,b,q1,q2,q3.trans k3⟩
  ·have hB:jA (n:Int) cmp n (c,(bs:Int))=some (.exit (c,(bs:Int))):=by
    unfold jA
    dsimp only
    rw [aba (by omega),aa_]
   rw [hB]
   exact ⟨c,_,rfl,hR.asc hb (by omega), .refl _⟩
theorem Oq (h:Ay lt S) (hc:oH cmp lt S) {n:Nat} (hn2:n<=100000000) {l:List α} (hS : ∀ z∈l,S z) (hn:l.length=n) : ∃ r,zC n l (n:Int) cmp=some r/\eQ lt r/\r.Perm l:=by
 obtain ⟨P,R,b,q1,q2,q3,q4⟩:=Pw h hc hn2 fuel [] l .nil hS hn (by unfold fuel;omega)
 rw [abd] at q1 q4
 have hl:=q4.length_eq
 rw [abg,hn] at hl
 have hS' : ∀ z∈P++R,S z:=fun z hz=>hS z (q4.mem_iff.1 hz)
 obtain ⟨M,k1,k2,k3⟩:=CS h hc (n:=n) (by omega) (P:=P) (M:=R) (Q:=[]) (fun z hz=>hS' z (by simp [hz])) (by rw [abJ,abg];omega)
 rw [show P.length+R.length=n by omega,abJ,abJ] at k1
 have hM:M.length=R.length:=k3.length_eq
 obtain ⟨c,b2,w1,w2,w3⟩:=QK h hc hn2 fuel 20 (P++M) (by omega) (by omega) (q2.rn (.last (by omega) k2)) (fun z hz=>by
  rcases abC.1 hz with hz|hz
  ·exact hS' z (by simp [hz])
  ·exact hS' z (by simp [k3.mem_iff.1 hz])) (by rw [abg];omega) (by unfold fuel;omega)
 refine ⟨c,?_,w2,(w3.trans (k3.append_left P)).trans q4⟩
 unfold zC
 simp only [abF,abR] at q1
 rw [show ((0:Nat):Int)=0 from rfl,show ((20:Nat):Int)=20 from rfl] at q1
 rw [show ((20:Nat):Int)=20 from rfl] at w1
 rw [q1,aa8]
 unfold sS
 dsimp only
 rw [k1,aa8,w1];rfl
theorem Oo (h:Ay lt S) (hc:oH cmp lt S) {n:Nat} (hn2:n<=100000000) {l:List α} (hS : ∀ z∈l,S z) (hn:l.length=n) : ∃ r,zU n l cmp=some r/\eQ lt r/\r.Perm l:=by
 obtain ⟨r,h1,h2,h3⟩:=Oq h hc hn2 hS hn
 refine ⟨r,?_,h2,h3⟩
 unfold zU
 rw [h1];rfl
end
def ltV (a b:List Val):Bool:=decide (bD a b<0)
theorem Zt:Ay ltV (fun x:List Val=>x.length<=1000000):=by
 refine ⟨fun x _=>?_,fun x y z _ _ _ h1 h2=>?_,fun x y _ _ h1 h2=>?_⟩
 ·unfold ltV
  rw [tCr_.refl];rfl
 ·exact abb (tCr_.trans _ _ _ (abD h1) (abD h2))
 ·have h1 : ¬ bD x y<0:=of_decide_eq_false h1
  have h2 : ¬ bD y x<0:=of_decide_eq_false h2
  refine tCr_.zero _ _ ?_
  have:=tCr_.anti x y
  have:=tCr_.anti y x
  omega
theorem VY:oH CK ltV (fun x:List Val=>x.length<=1000000):=fun x y hx hy=>⟨_,MC x y (Nat.le_trans hx (by omega)) (Nat.le_trans hy (by omega)),rfl⟩
theorem UN {l:List (List Val)} (hl:l.length<=100000000) (hr : ∀ x∈l,x.length<=1000000):zU l.length l CK=some (aI l):=by
 obtain ⟨r,h1,h2,h3⟩:=Oo Zt VY hl hr rfl
 rw [h1,zL (r:=r) (h2.imp fun {a b} h=>?_) h3]
 have h : ¬ bD b a<0:=of_decide_eq_false h
 have:=tCr_.anti a b
 have:=tCr_.anti b a
 omega
def BM (l:List (List Val)):Bool:=decide (l.length<=300)&&l.all fun r => !r.isEmpty&&decide (r.length<=1000000)
theorem Ry {l:List (List Val)} (h:BM l=true):l.length<=300 /\ ∀ r∈l,r≠[]/\r.length<=1000000:=by
 unfold BM at h
 rw [abr,abW] at h
 refine ⟨abD h.1,fun r hr=>?_⟩
 have:=h.2 r hr
 rw [abr] at this
 refine ⟨?_,abD this.2⟩
 rintro rfl
 exact absurd this.1 (by decide)
theorem Bp {l:List (List Val)} (h:l.length<=300) (hr : ∀ r∈l,r≠[]/\r.length<=1000000):BM l=true:=by
 unfold BM
 rw [abr,abW]
 refine ⟨abb h,fun r hx=>?_⟩
 rw [abr]
 refine ⟨?_,abb (hr r hx).2⟩
 cases r with
 | nil=>exact absurd rfl (hr [] hx).1
 | cons=>rfl
def tq (l:List (List Val)):Option (List (List Val)):=bif BM l then some (aI l) else none
abbrev dz {α:Type} (enc:α->List AC) (k v:Nat) (X:List α):Ob := .row v ((X.map enc).map (List.map SV.c)) k
theorem Ng {α:Type} (enc:α->List AC) (k v:Nat) (X:List α) (σ:List Nat):(dz enc k v X).ren σ=dz enc k v X:=by
 show Ob.row v (((X.map enc).map (List.map SV.c)).map (List.map (SV.ren σ))) k=_
 rw [List.map_map]
 congr 1
 refine List.map_congr_left fun e _=>?_
 show (e.map SV.c).map (SV.ren σ)=e.map SV.c
 rw [List.map_map]
 rfl
theorem aV {α:Type} (n:Nat) (enc:α->List AC) (k v:Nat) (X:List α):(dz enc k v X).below n:=lg n v k enc X
theorem rfX {α:Type} {enc:α->List AC} {k v:Nat} {X:List α} {L:List Ob} {args:List AV} (h0:L[0]?=some (dz enc k v X)) (hx : ∀ y∈args,y.below 1):qb [0] [dz enc k v X] args L:=by
 refine ⟨rfl,by simp,fun i y hy=>?_,cz ⟨aV _ _ _ _ _,trivial⟩,hx⟩
 match i,hy with
 | 0,hy=>simp only [List.getElem?_cons_zero,Option.some.injEq] at hy;subst hy;rw [Ng];exact h0
 | i+1,hy=>simp at hy
theorem jX {α:Type} {enc:α->List AC} {k v:Nat} {X:List α} {L L':List Ob} (h:L.set 0 (dz enc k v X)=L'):joinL [0] L [dz enc k v X]=L':=by
 subst h
 simp only [joinL,join,kX,fV,yH,abk,abo,Ng]
 simp
section
variable {P:Program} {ti:TI} {N:Nat} {ds:List (Option Tmp)} {K:Tm->List Ob->Prop} {rest:List Oper} {o:Oper} {T:Tm} {L:List Ob}
theorem r_ {α:Type} {enc:α->List AC} {X Y:List α} {g:FuncId} {asx args:List AV} {v k d:Nat} (hd:o.dst=some d) (hN:Nat.blt d N=true) (hg:jk ds T o.guard=some true) (hp:fG ti (look T) o.op=some (g,asx)) (hL:L[0]?=some (dz enc k v X)) (h:aU P ti N ds K rest ((d, .tup [])::T) (L.set 0 (dz enc k v Y)))
  (hc:Run P g [dz enc k v X] args [dz enc k v Y] (.tup []):=by assumption) (ha:asx=args.map (AV.ren [0]):=by rfl) (hb : ∀ y∈args,y.below 1:=by refine kU ?_;repeat' (first|refine ⟨?_,?_⟩|exact trivial|exact lt_)):aU P ti N ds K (o::rest) T L :=
 dF [0] hd hN hg hp hc ha (rfX hL hb) rfl (jX rfl) h
theorem ZL {α:Type} {enc:α->List AC} {X:List α} {x:α} {t:TypeId} {p:Operand} {id ver i k d:Nat} (hd:o.dst=some d) (hN:Nat.blt d N=true) {g0:Bool} (hg:jk ds T o.guard=some g0) (ho:o.op = .load t p) (hp:look T p=some (.one (.ep id ver i 0))) (hL:L[id]?=some (dz enc k ver X)) (ha:ti.agg t=some true) (hn:ti.size t=some k) (hk : ∀ x,(enc x).length=k)
  (h:aU P ti N ds K rest ((d, .agg ((enc x).map SV.c))::T) L) (hx:X[i]?=some x:=by assumption) (hg1:g0=true:=by first|rfl|exact lq (by first|assumption|exact lL (by assumption))|exact kP (by first|assumption|exact lV (by assumption))):aU P ti N ds K (o::rest) T L:=by
 subst hg1
 have hl:((enc x).map SV.c).length=k:=by rw [abl,hk]
 refine VM hd hN hg ho hp hL ha hn (e:=(enc x).map SV.c) ?_ (by rw [List.drop_zero, <- hl,List.take_length]) (by omega) h
 rw [abx,abx,hx];rfl
theorem Ze {α:Type} {enc:α->List AC} {X:List α} {x:α} {y:AC} {t:TypeId} {p:Operand} {id ver i k d:Nat} (hd:o.dst=some d) (hN:Nat.blt d N=true) {g0:Bool} (hg:jk ds T o.guard=some g0) (ho:o.op = .load t p) (hp:look T p=some (.one (.ep id ver i 0))) (hL:L[id]?=some (dz enc k ver X)) (ha:ti.agg t=some false)
  (h:aU P ti N ds K rest ((d, .one (.c y))::T) L) (hx:X[i]?=some x:=by assumption) (hy:enc x=[y]:=by rfl) (hg1:g0=true:=by first|rfl|exact lq (by first|assumption|exact lL (by assumption))|exact kP (by first|assumption|exact lV (by assumption))):aU P ti N ds K (o::rest) T L:=by
 subst hg1
 refine vD hd hN hg ho hp hL ha (e:=(enc x).map SV.c) (x := .c y) ?_ (by rw [hy];rfl) h
 rw [abx,abx,hx];rfl
end
theorem mO {α β:Type} {X:List α} {i:Int} {k:α->Option β} {r:β} (H:(aL X i).bind k=some r) : ∃ x,X[0+i.toNat]?=some x/\k x=some r:=by
 obtain ⟨x,h,K⟩:=bd_ H
 obtain ⟨h0,h1⟩:=Cq h
 exact ⟨x,by rw [abR];exact h1,K⟩
theorem xR {p q:Prop} (k:q) (h:Bx q->p:=by
 intro hq
 repeat' (first
  | refine r_ rfl rfl rfl rfl rfl ?_|refine ZL rfl rfl rfl rfl rfl rfl rfl rfl (fun _=>rfl) ?_|refine Ze rfl rfl rfl rfl rfl rfl rfl ?_|refine D6 rfl rfl rfl rfl rfl (by omega) rfl (fun _=>rfl) rfl ?_|refine p_ rfl rfl rfl rfl rfl ?_|refine st_nil ?_|refine x_ rfl rfl rfl rfl rfl rfl rfl rfl ?_|refine l_ rfl rfl rfl rfl ?_|refine s_ rfl rfl rfl ?_|refine t_ rfl rfl rfl rfl ?_|refine k_ rfl rfl rfl ?_|refine k0_ rfl rfl ?_|refine c_ rfl rfl rfl rfl ?_|refine pick_t rfl rfl rfl rfl rfl rfl rfl ?_|refine pick_f rfl rfl rfl rfl rfl rfl rfl ?_|refine aw_seq ?_|refine aw_region au _ rfl ?_|refine aw_drawn2 bK _ rfl mixed (by decide +kernel) ?_|refine aw_condT rfl ?_|refine aw_condF rfl ?_|refine aw_block ?_|refine aw_exit ?_|refine aw_ret ?_|refine aw_skip ?_|rw [abl]|rw [mn_norm]|rw [mx_norm])
 exact hq.out):p:=h ⟨k⟩
theorem j3 {p:Prop} (h:p:=by
 repeat' (first
  | refine r_ rfl rfl rfl rfl rfl ?_|refine ZL rfl rfl rfl rfl rfl rfl rfl rfl (fun _=>rfl) ?_|refine Ze rfl rfl rfl rfl rfl rfl rfl ?_|refine D6 rfl rfl rfl rfl rfl (by omega) rfl (fun _=>rfl) rfl ?_|refine p_ rfl rfl rfl rfl rfl ?_|refine st_nil ?_|refine x_ rfl rfl rfl rfl rfl rfl rfl rfl ?_|refine l_ rfl rfl rfl rfl ?_|refine s_ rfl rfl rfl ?_|refine t_ rfl rfl rfl rfl ?_|refine k_ rfl rfl rfl ?_|refine k0_ rfl rfl ?_|refine c_ rfl rfl rfl rfl ?_|refine pick_t rfl rfl rfl rfl rfl rfl rfl ?_|refine pick_f rfl rfl rfl rfl rfl rfl rfl ?_|refine aw_seq ?_|refine aw_region au _ rfl ?_|refine aw_drawn2 bK _ rfl mixed (by decide +kernel) ?_|refine aw_condT rfl ?_|refine aw_condF rfl ?_|refine aw_block ?_|refine aw_exit ?_|refine aw_ret ?_|refine aw_skip ?_|rw [abl]|rw [mn_norm]|rw [mx_norm])
 first
  | exact ⟨.inl rfl,⟨.inr ⟨.tup [],⟨trivial,rfl⟩,rfl⟩,⟨[],rfl⟩,by simp,cz ⟨aV _ _ _ _ _,trivial⟩,trivial⟩⟩
  | exact ⟨.inr rfl,⟨.inr ⟨.tup [],⟨trivial,rfl⟩,rfl⟩,⟨[],rfl⟩,by simp,cz ⟨aV _ _ _ _ _,trivial⟩,trivial⟩⟩):p:=h
set_option maxHeartbeats 8000000
theorem nZ {n:Nat}  {a_data:(List (List Val))} {a_a:Int} {a_b:Int} {a_n:Int} {a_cmp:(List Val)->(List Val)->Option (Int)} {v:Nat} {r:List (List Val)} {F_a_cmp:FuncId} {caps_a_cmp:List AC} (hf_a_cmp : ∀ (y0:(List Val)) (y1:(List Val)) (r:Int),a_cmp y0 y1=some r->Pure Tryz.prog F_a_cmp ([.one (.lst (y0.map cV)), .one (.lst (y1.map cV))]++caps_a_cmp.map .one) (.val (.one (.int .i64 r)))) (H:jG n a_data a_a a_b a_n a_cmp=some r):Run Tryz.prog 216 [dz (fun x=>[AC.lst (x.map cV)]) 1 v a_data] [.one (.sl 0 v 0 n), .one (.c (.int .i64 a_a)), .one (.c (.int .i64 a_b)), .one (.c (.int .i64 a_n)), .one (.c (.fn F_a_cmp caps_a_cmp))] [dz (fun x=>[AC.lst (x.map cV)]) 1 v r] (.tup []):=by
 unfold jG at H
 refine bQ au Tryz.func216 rfl rfl Tryz.ntmps216 (by simp) ?_
 simp only [j4]
 refine xR ?_
 refine alM_ (fun s:(List (List Val)) × Int=>match s with|(c_1,i_2)=>[(0, .one (.sl 0 v 0 n)),(1, .one (.c (.int .i64 a_a))),(2, .one (.c (.int .i64 a_b))),(3, .one (.c (.int .i64 a_n))),(10, .one (.c (.int .i64 i_2)))]) (fun s=>match s with|(c_1,i_2)=>[dz (fun x=>[AC.lst (x.map cV)]) 1 v c_1]) H (fun _=>abp _)
  (fm_ bV [] rfl bE ⟨aV _ _ _ _ _,trivial⟩) ?_
 rintro ⟨c_1,i_2⟩ st1 hb1 hk1
 unfold fA at hb1
 dsimp only at hb1 ⊢
 rcases cnd_ hb1 with ⟨q_3,hb1⟩|⟨q_3,hb1⟩
 ·obtain ⟨g1,hb1⟩:=aK hb1
  obtain ⟨g2,hb1⟩:=aK hb1
  obtain ⟨x_4,i3,hb1⟩:=mO hb1
  obtain ⟨g4,hb1⟩:=aK hb1
  obtain ⟨g5,hb1⟩:=aK hb1
  obtain ⟨x_5,i6,hb1⟩:=mO hb1
  obtain ⟨g7,hb1⟩:=aK hb1
  obtain ⟨g8,hb1⟩:=aK hb1
  obtain ⟨g9,hb1⟩:=aK hb1
  obtain ⟨g10,hb1⟩:=aK hb1
  obtain ⟨g11,hb1⟩:=aK hb1
  obtain ⟨g12,hb1⟩:=aK hb1
  cases hb1
  refine xR ?_
  exact ⟨_,rfl,fm_ bV [] rfl bE ⟨aV _ _ _ _ _,trivial⟩⟩
 cases hb1
 have hx1:ql (.inl (c_1,i_2))=some _:=hk1
 unfold ql at hx1
 dsimp only at hx1
 cases hx1
 exact j3
theorem C8 {n:Nat}  {a_data:(List (List Val))} {a_a:Int} {a_m:Int} {a_b:Int} {a_cmp:(List Val)->(List Val)->Option (Int)} {v:Nat} {r:List (List Val)} {F_a_cmp:FuncId} {caps_a_cmp:List AC} (hf_a_cmp : ∀ (y0:(List Val)) (y1:(List Val)) (r:Int),a_cmp y0 y1=some r->Pure Tryz.prog F_a_cmp ([.one (.lst (y0.map cV)), .one (.lst (y1.map cV))]++caps_a_cmp.map .one) (.val (.one (.int .i64 r)))) (H:pY n a_data a_a a_m a_b a_cmp=some r):Run Tryz.prog 215 [dz (fun x=>[AC.lst (x.map cV)]) 1 v a_data] [.one (.sl 0 v 0 n), .one (.c (.int .i64 a_a)), .one (.c (.int .i64 a_m)), .one (.c (.int .i64 a_b)), .one (.c (.fn F_a_cmp caps_a_cmp))] [dz (fun x=>[AC.lst (x.map cV)]) 1 v r] (.tup []):=by
 unfold pY at H
 refine bQ au Tryz.func215 rfl rfl Tryz.ntmps215 (by simp) ?_
 simp only [j4]
 refine xR ?_
 refine alM_ (fun s:(List (List Val)) × Int × Int=>match s with|(c_1,i_2,j_3)=>[(0, .one (.sl 0 v 0 n)),(2, .one (.c (.int .i64 a_m))),(4, .one (.c (.fn F_a_cmp caps_a_cmp))),(10, .one (.c (.int .i64 i_2))),(11, .one (.c (.int .i64 j_3)))]) (fun s=>match s with|(c_1,i_2,j_3)=>[dz (fun x=>[AC.lst (x.map cV)]) 1 v c_1]) H (fun _=>abp _)
  (fm_ bV [] rfl bE ⟨aV _ _ _ _ _,trivial⟩) ?_
 rintro ⟨c_1,i_2,j_3⟩ st1 hb1 hk1
 unfold gK at hb1
 dsimp only at hb1 ⊢
 rcases cnd_ hb1 with ⟨q_4,hb1⟩|⟨q_4,hb1⟩
 ·rcases cnd_ hb1 with ⟨q_5,hb1⟩|⟨q_5,hb1⟩
  ·obtain ⟨c_6,c1,hb1⟩:=bd_ hb1
   replace c1:=nZ (v:=v) (caps_a_cmp:=caps_a_cmp) hf_a_cmp c1
   cases hb1
   refine xR ?_
   exact ⟨_,rfl,fm_ bV [] rfl bE ⟨aV _ _ _ _ _,trivial⟩⟩
  obtain ⟨c_7,c2,hb1⟩:=bd_ hb1
  replace c2:=nZ (v:=v) (caps_a_cmp:=caps_a_cmp) hf_a_cmp c2
  cases hb1
  refine xR ?_
  exact ⟨_,rfl,fm_ bV [] rfl bE ⟨aV _ _ _ _ _,trivial⟩⟩
 cases hb1
 have hx1:su a_m a_cmp n (.inl (c_1,i_2,j_3))=some _:=hk1
 unfold su at hx1
 dsimp only at hx1
 obtain ⟨c_8,c3,hx1⟩:=bd_ hx1
 replace c3:=nZ (v:=v) (caps_a_cmp:=caps_a_cmp) hf_a_cmp c3
 cases hx1
 exact j3
theorem zx {n:Nat}  {a_data:(List (List Val))} {a_a:Int} {a_b:Int} {a_cmp:(List Val)->(List Val)->Option (Int)} {v:Nat} {r:List (List Val)} {F_a_cmp:FuncId} {caps_a_cmp:List AC} (hf_a_cmp : ∀ (y0:(List Val)) (y1:(List Val)) (r:Int),a_cmp y0 y1=some r->Pure Tryz.prog F_a_cmp ([.one (.lst (y0.map cV)), .one (.lst (y1.map cV))]++caps_a_cmp.map .one) (.val (.one (.int .i64 r)))) (H:qK n a_data a_a a_b a_cmp=some r):Run Tryz.prog 208 [dz (fun x=>[AC.lst (x.map cV)]) 1 v a_data] [.one (.sl 0 v 0 n), .one (.c (.int .i64 a_a)), .one (.c (.int .i64 a_b)), .one (.c (.fn F_a_cmp caps_a_cmp))] [dz (fun x=>[AC.lst (x.map cV)]) 1 v r] (.tup []):=by
 unfold qK at H
 refine bQ au Tryz.func208 rfl rfl Tryz.ntmps208 (by simp) ?_
 simp only [j4]
 refine xR ?_
 refine alM_ (fun s:(List (List Val)) × Int=>match s with|(c_1,i_2)=>[(0, .one (.sl 0 v 0 n)),(1, .one (.c (.int .i64 a_a))),(2, .one (.c (.int .i64 a_b))),(3, .one (.c (.fn F_a_cmp caps_a_cmp))),(8, .one (.c (.int .i64 i_2)))]) (fun s=>match s with|(c_1,i_2)=>[dz (fun x=>[AC.lst (x.map cV)]) 1 v c_1]) H (fun _=>abp _)
  (fm_ bV [] rfl bE ⟨aV _ _ _ _ _,trivial⟩) ?_
 rintro ⟨c_1,i_2⟩ st3 hb3 hk3
 unfold eZ at hb3
 dsimp only at hb3 ⊢
 rcases cnd_ hb3 with ⟨q_3,hb3⟩|⟨q_3,hb3⟩
 ·refine xR ?_
  refine alM_ (fun s:(List (List Val)) × Int=>match s with|(c_4,j_5)=>[(0, .one (.sl 0 v 0 n)),(1, .one (.c (.int .i64 a_a))),(2, .one (.c (.int .i64 a_b))),(3, .one (.c (.fn F_a_cmp caps_a_cmp))),(8, .one (.c (.int .i64 i_2))),(9, .one (.c (.int .i64 j_5)))]) (fun s=>match s with|(c_4,j_5)=>[dz (fun x=>[AC.lst (x.map cV)]) 1 v c_4]) hb3 (fun _=>abp _)
   (fm_ bV [] rfl bE ⟨aV _ _ _ _ _,trivial⟩) ?_
  rintro ⟨c_4,j_5⟩ st4 hb4 hk4
  unfold eP at hb4
  dsimp only at hb4 ⊢
  rcases cnd_ hb4 with ⟨q_6,hb4⟩|⟨q_6,hb4⟩
  ·obtain ⟨g1,hb4⟩:=aK hb4
   obtain ⟨g2,hb4⟩:=aK hb4
   obtain ⟨x_7,i3,hb4⟩:=mO hb4
   obtain ⟨g4,hb4⟩:=aK hb4
   obtain ⟨g5,hb4⟩:=aK hb4
   obtain ⟨x_8,i6,hb4⟩:=mO hb4
   obtain ⟨r_9,c7,hb4⟩:=bd_ hb4
   replace c7:=hf_a_cmp _ _ _ c7
   rcases cnd_ hb4 with ⟨q_10,hb4⟩|⟨q_10,hb4⟩
   ·obtain ⟨g8,hb4⟩:=aK hb4
    obtain ⟨g9,hb4⟩:=aK hb4
    obtain ⟨g10,hb4⟩:=aK hb4
    obtain ⟨g11,hb4⟩:=aK hb4
    obtain ⟨g12,hb4⟩:=aK hb4
    obtain ⟨g13,hb4⟩:=aK hb4
    obtain ⟨g14,hb4⟩:=aK hb4
    obtain ⟨g15,hb4⟩:=aK hb4
    obtain ⟨g16,hb4⟩:=aK hb4
    obtain ⟨g17,hb4⟩:=aK hb4
    cases hb4
    refine xR ?_
    exact ⟨_,rfl,fm_ bV [] rfl bE ⟨aV _ _ _ _ _,trivial⟩⟩
   cases hb4
   have hx4:jV i_2 (.inl (c_4,j_5))=some _:=hk4
   unfold jV at hx4
   dsimp only at hx4
   cases hx4
   refine xR ?_
   exact ⟨_,rfl,fm_ bV [] rfl bE ⟨aV _ _ _ _ _,trivial⟩⟩
  cases hb4
  have hx4:jV i_2 (.inl (c_4,j_5))=some _:=hk4
  unfold jV at hx4
  dsimp only at hx4
  cases hx4
  refine xR ?_
  exact ⟨_,rfl,fm_ bV [] rfl bE ⟨aV _ _ _ _ _,trivial⟩⟩
 cases hb3
 have hx3:vN (.inl (c_1,i_2))=some _:=hk3
 unfold vN at hx3
 dsimp only at hx3
 cases hx3
 exact j3
end Go.Proofs.YtfpbmfalamappaaGreatDoor
