/- Parts of the proof, joined. No condition. -/
import Derived.Test.YtcehmafobkhdbaaGreatDoorKBF
set_option linter.unusedSimpArgs false
set_option linter.unusedVariables false
namespace Go.Proofs.YtcehmafobkhdbaaGreatDoor
open Go.RowKit Go.MapKept
set_option maxRecDepth 100000
section
variable {α:Type} {lt:α->α->Bool} {S:α->Prop} {cmp:α->α->Option Int}
theorem u64_in {x:Int} (h0:0<=x) (h:x<=4611686018427387904):IntKind.u64.wrap x=x:=by
 simp only [IntKind.wrap,IntKind.bits,IntKind.signed]
 simp
 omega
theorem FI {i j:Nat} (h:i+j<=4611686018427387904):bT (IntKind.i64.wrap ((i:Int)+(j:Int)))=(((i+j)/2:Nat):Int):=by
 rw [Y4 i j h]
 show IntKind.i64.wrap (Int.fdiv (IntKind.u64.wrap ((i+j:Nat):Int)) 2)=_
 rw [u64_in (by omega) (by omega),Int.fdiv_eq_ediv_of_nonneg _ (by omega),fK (by omega)]
 omega
def qz (cmp:α->α->Option Int) (lt:α->α->Bool) (S:α->Prop):Prop := ∀ x y,S x->S y -> ∃ r,cmp x y=some r/\decide (r<0)=lt x y
theorem wr1 (a:Nat) (h:1<=a) (h2:a<=4611686018427387904):IntKind.i64.wrap ((a:Int)-1)=((a-1:Nat):Int):=by rw [fK (by omega)];omega
theorem MZ (h:DC lt S) (hc:qz cmp lt S) {n:Nat} (hn2:n<=1000000000) (P Q:List α) (x:α) (sx:S x) : ∀ (k:Nat) (L1 L2:List α) (N:Nat),L1.length=k->(∀ z∈L1++L2,S z)->fT lt (L1++L2)->(L2=[] \/ ∃ z L,L2=z::L/\lt z x=false)->(P++((L1++x::L2)++Q)).length=n->k<N ->
  ∃ M j,ax (gq (P.length:Int) cmp n) N (P++((L1++x::L2)++Q),((P.length+k:Nat):Int))=some (.inl (P++(M++Q),j))/\fT lt M/\M.Perm (x::(L1++L2))
 | k,L1,L2,0,_,_,_,_,_,hN=>by omega
 | 0,L1,L2,N+1,hk,hS,ha,h2,hn,hN=>by
  have:L1=[]:=ahu.1 hk
  subst this
  rw [ax]
  have hb:gq (P.length:Int) cmp n (P++(([]++x::L2)++Q),((P.length+0:Nat):Int))=some (.exit (P++(([]++x::L2)++Q),((P.length+0:Nat):Int))):=by
   unfold gq
   dsimp only
   rw [agY (by omega),agW]
  rw [hb]
  refine ⟨x::L2,_,rfl,?_, .refl _⟩
  have:=Ht h (L1:=[]) (L2:=L2) sx hS ha (.inl rfl) h2
  exact this
 | k+1,L1,L2,N+1,hk,hS,ha,h2,hn,hN=>by
  obtain ⟨L,y,rfl⟩ : ∃ L y,L1=L++[y]:=by
   rcases List.eq_nil_or_concat L1 with e|⟨L,y,e⟩
   ·subst e;simp at hk
   ·exact ⟨L,y,by simpa using e⟩
  have hL:L.length=k:=by simp at hk;exact hk
  have hn':=hn
  simp only [ag3,ahf,aho] at hn'
  have sy:S y:=hS y (by simp)
  have e1:P++((L++[y])++x::L2++Q)=(P++L)++y::([]++x::(L2++Q)):=by simp
  have g1:(P++((L++[y])++x::L2++Q))[P.length+k]?=some y:=by rw [e1, <- hL, <- ag3];exact get_at _ _ _
  have g2:(P++((L++[y])++x::L2++Q))[P.length+(k+1)]?=some x:=by
   have:=G5 (P++L) [] (L2++Q) y x
   rw [<- e1] at this
   rwa [show (P++L).length+1+([]:List α).length=P.length+(k+1) by simp;omega] at this
  obtain ⟨r,hr,hr2⟩:=hc x y sx sy
  rw [ax]
  cases hxy:lt x y with
  | false =>
   have hb:gq (P.length:Int) cmp n (P++((L++[y])++x::L2++Q),((P.length+(k+1):Nat):Int))=some (.exit (P++((L++[y])++x::L2++Q),((P.length+(k+1):Nat):Int))):=by
    unfold gq
    dsimp only
    rw [wr1 _ (by omega) (by omega),show P.length+(k+1)-1=P.length+k by omega]
    simp only [agZ (show (P.length:Int)<((P.length+(k+1):Nat):Int) by omega),Sd,Mx (show P.length+(k+1)<n by omega),Mx (show P.length+k<n by omega),agX,gn_ g1,gn_ g2,agU,hr,hr2,hxy,agW]
   rw [hb]
   refine ⟨(L++[y])++x::L2,_,rfl,Ht h sx hS ha (.inr ⟨L,y,rfl,hxy⟩) h2,List.perm_middle⟩
  | true =>
   have hb:gq (P.length:Int) cmp n (P++((L++[y])++x::L2++Q),((P.length+(k+1):Nat):Int))=some (.next (P++((L++x::(y::L2))++Q),((P.length+k:Nat):Int))):=by
    unfold gq
    dsimp only
    rw [wr1 _ (by omega) (by omega),show P.length+(k+1)-1=P.length+k by omega]
    simp only [agZ (show (P.length:Int)<((P.length+(k+1):Nat):Int) by omega),Sd,Mx (show P.length+(k+1)<n by omega),Mx (show P.length+k<n by omega),agX,gn_ g1,gn_ g2,agU,hr,hr2,hxy,VP,List.length_set,agZ (show P.length+(k+1)<(P++((L++[y])++x::L2++Q)).length by omega),agZ (show P.length+k<(P++((L++[y])++x::L2++Q)).length by omega)]
    have s2:=VQ (f:=fun z:α=>z) (P++L) [] (L2++Q) y x
    rw [List.map_id',List.map_id', <- e1,show (P++L).length=P.length+k by simp;omega,aho,show P.length+k+1+0=P.length+(k+1) by omega] at s2
    rw [List.set_comm _ _ (by omega),s2]
    simp
   rw [hb]
   obtain ⟨M,j,k1,k2,k3⟩:=MZ h hc hn2 P Q x sx k L (y::L2) N hL (fun z hz=>hS z (by simp at hz ⊢;rcases hz with hz|hz|hz<;>simp [hz])) (by simpa using ha) (.inr ⟨y,L2,rfl,h.le_of sx sy hxy⟩) (by rw [<- hn];simp) (by omega)
   exact ⟨M,j,k1,k2,k3.trans (by simp)⟩
theorem M8 (h:DC lt S) (hc:qz cmp lt S) {n:Nat} (hn2:n<=1000000000) (P Q:List α) (b:Nat) : ∀ (R M:List α) (N:Nat),P.length+M.length+R.length=b->(∀ z∈M++R,S z)->fT lt M->(P++(M++(R++Q))).length=n->R.length<N ->
  ∃ M',ax (gm (P.length:Int) (b:Int) cmp n) N (P++(M++(R++Q)),((P.length+M.length:Nat):Int))=some (.inl (P++(M'++Q),(b:Int)))/\fT lt M'/\M'.Perm (M++R)
 | R,M,0,_,_,_,_,hN=>by omega
 | [],M,N+1,hb,hS,ha,hn,hN=>by
  simp only [aho,Nat.add_zero] at hb
  subst hb
  rw [ax]
  have hB:gm (P.length:Int) ((P.length+M.length:Nat):Int) cmp n (P++(M++([]++Q)),((P.length+M.length:Nat):Int))=some (.exit (P++(M++([]++Q)),((P.length+M.length:Nat):Int))):=by
   unfold gm
   dsimp only
   rw [agY (by omega),agW]
  rw [hB]
  exact ⟨M,rfl,ha,by simp⟩
 | x::R,M,N+1,hb,hS,ha,hn,hN=>by
  have hn':=hn
  simp only [ag3,ahf] at hn' hb
  obtain ⟨M1,j,k1,k2,k3⟩:=MZ h hc hn2 P (R++Q) x (hS x (by simp)) M.length M [] fuel rfl (fun z hz=>hS z (by simp at hz ⊢;exact .inl hz)) (by simpa using ha) (.inl rfl) (by rw [<- hn];simp) (by unfold fuel;omega)
  have hl:M1.length=M.length+1:=by rw [k3.length_eq];simp
  have e1:P++((M++x::[])++(R++Q))=P++(M++(x::R++Q)):=by simp
  rw [e1] at k1
  rw [ax]
  have hB:gm (P.length:Int) (b:Int) cmp n (P++(M++(x::R++Q)),((P.length+M.length:Nat):Int))=some (.next (P++(M1++(R++Q)),((P.length+M1.length:Nat):Int))):=by
   unfold gm
   dsimp only
   rw [agZ (show ((P.length+M.length:Nat):Int)<(b:Int) by omega),agX,k1,agU]
   unfold lX
   dsimp only
   rw [wrapN (by omega),hl,Nat.add_assoc]
  rw [hB]
  obtain ⟨M',q1,q2,q3⟩:=M8 h hc hn2 P Q b R M1 N (by omega) (fun z hz=>by
   rcases ahl.1 hz with hz|hz
   ·have:=k3.mem_iff.1 hz;simp at this;rcases this with rfl|hz
    ·exact hS z (by simp)
    ·exact hS z (by simp [hz])
   ·exact hS z (by simp [hz])) k2 (by rw [<- hn];simp [hl];omega) (by simp at hN;omega)
  refine ⟨M',q1,q2,q3.trans ?_⟩
  refine (k3.append_right R).trans ?_
  simp only [ahs,List.cons_append]
  exact (List.perm_middle (a:=x) (l₁:=M) (l₂:=R)).symm
theorem Gu (h:DC lt S) (hc:qz cmp lt S) {n:Nat} (hn2:n<=1000000000) {P M Q:List α} (hS : ∀ z∈M,S z) (hn:(P++(M++Q)).length=n) : ∃ M',uE n (P++(M++Q)) (P.length:Int) ((P.length+M.length:Nat):Int) cmp=some (P++(M'++Q))/\fT lt M'/\M'.Perm M:=by
 have hn':=hn
 simp only [ag3] at hn'
 unfold uE
 rw [show IntKind.i64.wrap ((P.length:Int)+1)=((P.length+1:Nat):Int) from wrapN (by omega)]
 match M,hS,hn,hn' with
 | [],hS,hn,hn' =>
  refine ⟨[],?_,List.Pairwise.nil, .refl _⟩
  have hf:fuel=(fuel-1)+1:=rfl
  rw [hf,ax]
  have hB:gm (P.length:Int) ((P.length+([]:List α).length:Nat):Int) cmp n (P++([]++Q),((P.length+1:Nat):Int))=some (.exit (P++([]++Q),((P.length+1:Nat):Int))):=by
   unfold gm
   dsimp only
   rw [agY (by simp only [aho];omega),agW]
  rw [hB];rfl
 | x::M,hS,hn,hn' =>
  simp only [ahf] at hn'
  obtain ⟨M',q1,q2,q3⟩:=M8 h hc hn2 P Q (P.length+(x::M).length) M [x] fuel (by simp;omega) (by simpa using hS) (by simp [fT]) (by rw [<- hn];simp) (by unfold fuel;omega)
  refine ⟨M',?_,q2,by simpa using q3⟩
  have e:P++([x]++(M++Q))=P++(x::M++Q):=by simp
  rw [e,show P.length+[x].length=P.length+1 from rfl] at q1
  rw [q1];rfl
end
section
variable {α:Type} {lt:α->α->Bool} {S:α->Prop} {cmp:α->α->Option Int}
theorem Dr {β:Type} {body:Int × Int->Option (Step (Int × Int) β)} (lo hi:Nat) (p:Nat->Bool) (hB : ∀ i j:Nat,lo<=i->i<j->j<=hi->body ((i:Int),(j:Int))=some (.next (bif p ((i+j)/2) then ((((i+j)/2+1:Nat):Int),(j:Int)) else ((i:Int),(((i+j)/2:Nat):Int))))) (hE : ∀ i:Nat,body ((i:Int),(i:Int))=some (.exit ((i:Int),(i:Int)))) :
  ∀ (N i j:Nat),lo<=i->i<=j->j<=hi->j-i<N->(i=lo\/p (i-1)=true)->(j=hi\/p j=false) -> ∃ s:Nat,ax body N ((i:Int),(j:Int))=some (.inl ((s:Int),(s:Int)))/\lo<=s/\s<=hi/\(s=lo\/p (s-1)=true)/\(s=hi\/p s=false)
 | 0,i,j,_,_,_,h,_,_=>by omega
 | N+1,i,j,h1,h2,h3,hN,hi1,hj1=>by
  rw [ax]
  by_cases he:i=j
  ·subst he
   rw [hE]
   exact ⟨i,rfl,h1,h3,hi1,hj1⟩
  ·rw [hB i j h1 (by omega) h3]
   cases hp:p ((i+j)/2) with
   | true =>
    rw [agX]
    exact Dr lo hi p hB hE N ((i+j)/2+1) j (by omega) (by omega) h3 (by omega) (.inr (by rw [Nat.add_sub_cancel];exact hp)) hj1
   | false =>
    rw [agW]
    exact Dr lo hi p hB hE N i ((i+j)/2) h1 (by omega) (by omega) (by omega) hi1 (.inr hp)
theorem aah {n:Nat} (hn2:n<=1000000000) (x:α) (Q:List α) (i:Nat) : ∀ (B P:List α) (N:Nat),P.length+B.length+1=i->(P++x::(B++Q)).length=n->B.length<N -> ∃ k,ax (rq n (i:Int)) N (P++x::(B++Q),(P.length:Int))=some (.inl (P++(B++x::Q),k))
 | B,P,0,_,_,hN=>by omega
 | [],P,N+1,hi,hn,hN=>by
  simp only [aho,Nat.add_zero] at hi
  have hn':=hn
  simp only [ag3,ahf] at hn'
  subst hi
  rw [ax]
  have hb:rq n ((P.length+1:Nat):Int) (P++x::([]++Q),(P.length:Int))=some (.exit (P++x::([]++Q),(P.length:Int))):=by
   unfold rq
   dsimp only
   rw [wr1 _ (by omega) (by omega),agY (by omega),agW]
  rw [hb]
  exact ⟨_,rfl⟩
 | y::B,P,N+1,hi,hn,hN=>by
  simp only [ahf] at hi hN
  have hn':=hn
  simp only [ag3,ahf] at hn'
  have g1:(P++x::(y::B++Q))[P.length]?=some x:=get_at _ _ _
  have g2:(P++x::(y::B++Q))[P.length+1]?=some y:=G5 P [] (B++Q) x y
  rw [ax]
  have hb:rq n (i:Int) (P++x::(y::B++Q),(P.length:Int))=some (.next ((P++[y])++x::(B++Q),(((P++[y]).length:Nat):Int))):=by
   unfold rq
   dsimp only
   rw [wr1 _ (by omega) (by omega),wrapN (by omega)]
   have s2:=VQ (f:=fun z:α=>z) P [] (B++Q) x y
   rw [List.map_id',List.map_id',aho,Nat.add_zero] at s2
   have s3:((P++x::(y::B++Q)).set P.length y).set (P.length+1) x=P++y::x::(B++Q):=s2
   simp only [agZ (show (P.length:Int)<((i-1:Nat):Int) by omega),Sd,Mx (show P.length+1<n by omega),Mx (show P.length<n by omega),agX,gn_ g1,gn_ g2,agU,VP,List.length_set,agZ (show P.length+1<(P++x::(y::B++Q)).length by rw [hn];omega),agZ (show P.length<(P++x::(y::B++Q)).length by rw [hn];omega),s3]
   simp
  rw [hb]
  obtain ⟨k,hk⟩:=aah hn2 x Q i B (P++[y]) N (by simp;omega) (by rw [<- hn];simp only [ag3,ahf,aho];omega) (by omega)
  exact ⟨k,by show ax _ N _=_;rw [hk];simp⟩
theorem aao {n:Nat} (hn2:n<=1000000000) (x:α) (P:List α) : ∀ (l:Nat) (A Q:List α) (N:Nat),A.length=l->(P++(A++x::Q)).length=n->l<N -> ∃ k,ax (q9 n (P.length:Int)) N (P++(A++x::Q),((P.length+l:Nat):Int))=some (.inl (P++x::(A++Q),k))
 | l,A,Q,0,_,_,hN=>by omega
 | 0,A,Q,N+1,hl,hn,hN=>by
  have:A=[]:=ahu.1 hl
  subst this
  rw [ax]
  have hb:q9 n (P.length:Int) (P++([]++x::Q),((P.length+0:Nat):Int))=some (.exit (P++([]++x::Q),((P.length+0:Nat):Int))):=by
   unfold q9
   dsimp only
   rw [agY (by omega),agW]
  rw [hb]
  exact ⟨_,rfl⟩
 | l+1,A,Q,N+1,hl,hn,hN=>by
  obtain ⟨L,y,rfl⟩ : ∃ L y,A=L++[y]:=by
   rcases List.eq_nil_or_concat A with e|⟨L,y,e⟩
   ·subst e;simp at hl
   ·exact ⟨L,y,by simpa using e⟩
  have hL:L.length=l:=by simp at hl;exact hl
  have hn':=hn
  simp only [ag3,ahf,aho] at hn'
  have e1:P++((L++[y])++x::Q)=(P++L)++y::([]++x::Q):=by simp
  have g1:(P++((L++[y])++x::Q))[P.length+l]?=some y:=by rw [e1, <- hL, <- ag3];exact get_at _ _ _
  have g2:(P++((L++[y])++x::Q))[P.length+(l+1)]?=some x:=by
   have:=G5 (P++L) [] Q y x
   rw [<- e1] at this
   rwa [show (P++L).length+1+([]:List α).length=P.length+(l+1) by simp;omega] at this
  rw [ax]
  have hb:q9 n (P.length:Int) (P++((L++[y])++x::Q),((P.length+(l+1):Nat):Int))=some (.next (P++(L++x::(y::Q)),((P.length+l:Nat):Int))):=by
   unfold q9
   dsimp only
   rw [wr1 _ (by omega) (by omega),show P.length+(l+1)-1=P.length+l by omega]
   have s2:=VQ (f:=fun z:α=>z) (P++L) [] Q y x
   rw [List.map_id',List.map_id', <- e1,show (P++L).length=P.length+l by simp;omega,aho,show P.length+l+1+0=P.length+(l+1) by omega,List.set_comm _ _ (by omega)] at s2
   simp only [agZ (show (P.length:Int)<((P.length+(l+1):Nat):Int) by omega),Sd,Mx (show P.length+(l+1)<n by omega),Mx (show P.length+l<n by omega),agX,gn_ g1,gn_ g2,agU,VP,List.length_set,agZ (show P.length+(l+1)<(P++((L++[y])++x::Q)).length by rw [hn];omega),agZ (show P.length+l<(P++((L++[y])++x::Q)).length by rw [hn];omega),s2]
   simp
  rw [hb]
  obtain ⟨k,hk⟩:=aao hn2 x P l L (y::Q) N hL (by rw [<- hn];simp) (by omega)
  exact ⟨k,by show ax _ N _=_;rw [hk];simp⟩
theorem ye {l:List α} {s:Nat} (h:s<=l.length) : ∃ a b,l=a++b/\a.length=s:=⟨l.take s,l.drop s,(ahE _ _).symm,by rw [ahK];omega⟩
theorem GM {A:List α} (h:0<A.length) : ∃ L y,A=L++[y]:=by
 rcases List.eq_nil_or_concat A with e|⟨L,y,e⟩
 ·subst e;simp at h
 ·exact ⟨L,y,by simpa using e⟩
theorem Hw {A:List α} (h:0<A.length) : ∃ y L,A=y::L:=match A,h with|y::L,_=>⟨y,L,rfl⟩
def p1F (lt:α->α->Bool) (D:List α) (x:α) (i:Nat):Bool:=match D[i]? with|some y=>lt y x|none=>false
def p3F (lt:α->α->Bool) (D:List α) (x:α) (i:Nat):Bool:=match D[i]? with|some y => !lt x y|none=>false
def p5F (lt:α->α->Bool) (D:List α) (p i:Nat):Bool:=match D[p-i]?,D[i]? with|some x,some y => !lt x y|_,_=>false
theorem abz (h:DC lt S) (hc:qz cmp lt S) {n:Nat} (hn2:n<=1000000000) {P Q B:List α} {x:α} (sx:S x) (sB : ∀ z∈B,S z) (hB:fT lt B) (hn:(P++x::(B++Q)).length=n) :
  ∃ M,((ax (uq (P++x::(B++Q)) (P.length:Int) cmp n) fuel (((P.length+1:Nat):Int),((P.length+1+B.length:Nat):Int))).bind (zB (P++x::(B++Q)) (P.length:Int) n))=some (P++(M++Q))/\fT lt M/\M.Perm (x::B):=by
 have hn':=hn
 simp only [ag3,ahf] at hn'
 have gx:(P++x::(B++Q))[P.length]?=some x:=get_at _ _ _
 have gB : ∀ i y,B[i]?=some y->(P++x::(B++Q))[P.length+1+i]?=some y:=by
  intro i y hy
  have hi:=(agV.1 hy).1
  rw [ag2 (by omega),show P.length+1+i-P.length=i+1 by omega,List.getElem?_cons_succ,ag9 hi]
  exact hy
 obtain ⟨s,hs,s1,s2,s3,s4⟩:=Dr (body:=uq (P++x::(B++Q)) (P.length:Int) cmp n) (P.length+1) (P.length+1+B.length) (p1F lt (P++x::(B++Q)) x) (by
  intro i j hi hij hj
  obtain ⟨y,hy⟩:=gol_ (l:=B) (i:=(i+j)/2-(P.length+1)) (by omega)
  have gy:=gB _ _ hy
  rw [show P.length+1+((i+j)/2-(P.length+1))=(i+j)/2 by omega] at gy
  obtain ⟨r,hr,hr2⟩:=hc y x (sB y (ag1 hy)) sx
  unfold uq
  dsimp only
  rw [FI (by omega),wrapN (by omega)]
  simp only [Mx hij,Sd,Mx (show (i+j)/2<n by omega),Mx (show P.length<n by omega),agX,gn_ gy,gn_ gx,agU,hr,hr2]
  unfold p1F
  rw [gy]
  dsimp only
  cases lt y x<;>rfl) (by
  intro i
  unfold uq
  dsimp only
  rw [agY (by omega),agW]) fuel (P.length+1) (P.length+1+B.length) (ag' _) (by omega) (ag' _) (by unfold fuel;omega) (.inl rfl) (.inl rfl)
 rw [hs,agU]
 obtain ⟨B1,B2,rfl,hB1⟩:=ye (l:=B) (s:=s-(P.length+1)) (by omega)
 unfold zB
 dsimp only
 have e1:P++x::(B1++B2++Q)=P++x::(B1++(B2++Q)):=by simp
 rw [e1]
 obtain ⟨k,hk⟩:=aah hn2 x (B2++Q) s B1 P fuel (by omega) (by rw [<- e1];exact hn) (by simp at hn';unfold fuel;omega)
 rw [hk]
 refine ⟨B1++x::B2,by show some (P++(B1++x::(B2++Q)))=_;simp,Ht h sx sB hB ?_ ?_,List.perm_middle⟩
 ·by_cases h0:0<B1.length
  ·obtain ⟨L,y,rfl⟩:=GM h0
   refine .inr ⟨L,y,rfl,?_⟩
   have sy:=sB y (by simp)
   rcases s3 with e|e
   ·simp at hB1;omega
   ·have gy:=gB (s-1-(P.length+1)) y (by
     have:(L++[y]).length=s-(P.length+1):=hB1
     simp at this
     rw [ahk,ag2 (by omega),show s-1-(P.length+1)-L.length=0 by omega];rfl)
    rw [show P.length+1+(s-1-(P.length+1))=s-1 by simp at hB1;omega] at gy
    unfold p1F at e
    rw [gy] at e
    exact h.le_of sy sx e
  ·exact .inl (ahu.1 (by omega))
 ·by_cases h0:0<B2.length
  ·obtain ⟨z,L,rfl⟩:=Hw h0
   refine .inr ⟨z,L,rfl,?_⟩
   rcases s4 with e|e
   ·simp at e;omega
   ·have gz:=gB (s-(P.length+1)) z (by rw [<- hB1];exact get_at _ _ _)
    rw [show P.length+1+(s-(P.length+1))=s by omega] at gz
    unfold p1F at e
    rw [gz] at e
    exact e
  ·exact .inl (ahu.1 (by omega))
theorem abW (h:DC lt S) (hc:qz cmp lt S) {n:Nat} (hn2:n<=1000000000) {P Q A:List α} {x:α} (sx:S x) (sA : ∀ z∈A,S z) (hA:fT lt A) (hn:(P++(A++x::Q)).length=n) :
  ∃ M,((ax (ve (P++(A++x::Q)) ((P.length+A.length:Nat):Int) cmp n) fuel ((P.length:Int),((P.length+A.length:Nat):Int))).bind (zk (P++(A++x::Q)) ((P.length+A.length:Nat):Int) n))=some (P++(M++Q))/\fT lt M/\M.Perm (A++[x]):=by
 have hn':=hn
 simp only [ag3,ahf] at hn'
 have gx:(P++(A++x::Q))[P.length+A.length]?=some x:=by rw [<- ahk, <- ag3];exact get_at _ _ _
 have gA : ∀ i y,A[i]?=some y->(P++(A++x::Q))[P.length+i]?=some y:=by
  intro i y hy
  have hi:=(agV.1 hy).1
  rw [ag2 (by omega),show P.length+i-P.length=i by omega,ag9 hi]
  exact hy
 obtain ⟨s,hs,s1,s2,s3,s4⟩:=Dr (body:=ve (P++(A++x::Q)) ((P.length+A.length:Nat):Int) cmp n) P.length (P.length+A.length) (p3F lt (P++(A++x::Q)) x) (by
  intro i j hi hij hj
  obtain ⟨y,hy⟩:=gol_ (l:=A) (i:=(i+j)/2-P.length) (by omega)
  have gy:=gA _ _ hy
  rw [show P.length+((i+j)/2-P.length)=(i+j)/2 by omega] at gy
  obtain ⟨r,hr,hr2⟩:=hc x y sx (sA y (ag1 hy))
  unfold ve
  dsimp only
  rw [FI (by omega),wrapN (by omega)]
  simp only [Mx hij,Sd,Mx (show (i+j)/2<n by omega),Mx (show P.length+A.length<n by omega),agX,gn_ gy,gn_ gx,agU,hr,hr2]
  unfold p3F
  rw [gy]
  dsimp only
  cases lt x y<;>rfl) (by
  intro i
  unfold ve
  dsimp only
  rw [agY (by omega),agW]) fuel P.length (P.length+A.length) (ag' _) (by omega) (ag' _) (by unfold fuel;omega) (.inl rfl) (.inl rfl)
 rw [hs,agU]
 obtain ⟨A1,A2,rfl,hA1⟩:=ye (l:=A) (s:=s-P.length) (by omega)
 unfold zk
 dsimp only
 have e1:P++(A1++A2++x::Q)=(P++A1)++(A2++x::Q):=by simp
 have hlA:(P++A1).length=s:=by simp;omega
 rw [e1, <- hlA]
 have hl2:P.length+(A1++A2).length=(P++A1).length+A2.length:=by simp;omega
 rw [hl2]
 obtain ⟨k,hk⟩:=aao hn2 x (P++A1) A2.length A2 Q fuel rfl (by rw [<- e1];exact hn) (by simp at hn';unfold fuel;omega)
 rw [hk]
 refine ⟨A1++x::A2,by show some ((P++A1)++x::(A2++Q))=_;simp,Ht h sx sA hA ?_ ?_,?_⟩
 ·by_cases h0:0<A1.length
  ·obtain ⟨L,y,rfl⟩:=GM h0
   refine .inr ⟨L,y,rfl,?_⟩
   rcases s3 with e|e
   ·simp at hA1;omega
   ·have gy:=gA (s-1-P.length) y (by
     have:(L++[y]).length=s-P.length:=hA1
     simp at this
     rw [ahk,ag2 (by omega),show s-1-P.length-L.length=0 by omega];rfl)
    rw [show P.length+(s-1-P.length)=s-1 by simp at hA1;omega] at gy
    unfold p3F at e
    rw [gy] at e
    simpa using e
  ·exact .inl (ahu.1 (by omega))
 ·by_cases h0:0<A2.length
  ·obtain ⟨z,L,rfl⟩:=Hw h0
   refine .inr ⟨z,L,rfl,?_⟩
   have sz:=sA z (by simp)
   rcases s4 with e|e
   ·simp at e hA1;omega
   ·have gz:=gA (s-P.length) z (by rw [<- hA1];exact get_at _ _ _)
    rw [show P.length+(s-P.length)=s by omega] at gz
    unfold p3F at e
    rw [gz] at e
    exact h.le_of sx sz (by simpa using e)
  ·exact .inl (ahu.1 (by omega))
 ·rw [ahk]
  refine List.Perm.append_left A1 ?_
  exact (List.perm_append_comm (l₁:=[x]) (l₂:=A2))
end
set_option maxHeartbeats 4000000
section
variable {α:Type} {lt:α->α->Bool} {S:α->Prop} {cmp:α->α->Option Int}
def OE (rec:Nat->List α->Int->Int->Int->(α->α->Option Int)->Option (List α)) (cmp:α->α->Option Int) (n:Nat) (D:List α) (a s m e mid b:Int):Option (List α) :=
 (bif decide (s<m)&&decide (m<e) then sU n D s m e cmp else some D).bind fun c1 =>
 (bif decide (a<s)&&decide (s<mid) then rec n c1 a s mid cmp else some c1).bind fun c2 =>
 (bif decide (mid<e)&&decide (e<b) then rec n c2 mid e b cmp else some c2).bind fun c3=>some c3
theorem aaN (rec:Nat->List α->Int->Int->Int->(α->α->Option Int)->Option (List α)) (n:Nat) (D:List α) (a m b s:Int):pg D a m b cmp n rec (.inl (s,s))=OE rec cmp n D a s m (IntKind.i64.wrap ((IntKind.i64.wrap ((bT (IntKind.i64.wrap (a+b)))+m))-s)) (bT (IntKind.i64.wrap (a+b))) b:=by
 unfold pg OE
 dsimp only
 generalize bT (IntKind.i64.wrap (a+b))=mid
 generalize IntKind.i64.wrap (IntKind.i64.wrap (mid+m)-s)=e
 generalize decide (s<m)=d1
 generalize decide (m<e)=d2
 generalize decide (a<s)=d3
 generalize decide (s<mid)=d4
 generalize decide (mid<e)=d5
 generalize decide (e<b)=d6
 cases d1<;>cases d2<;>cases d3<;>cases d4<;>cases d5<;>cases d6<;>rfl
theorem afq (D:List α) (a m b:Int) (n:Nat):Dz D a m b cmp n=oQ D a m b cmp n:=rfl
theorem afb (rec:Nat->List α->Int->Int->Int->(α->α->Option Int)->Option (List α)) (D:List α) (a m b:Int) (n:Nat):yU D a m b cmp n rec=pg D a m b cmp n rec:=by
 funext q
 cases q<;>rfl
theorem UU (h:DC lt S) (hc:qz cmp lt S) {n:Nat} (hn2:n<=1000000000) {D:List α} (hD:D.length=n) (hS : ∀ z∈D,S z) {a m b lo hi:Nat} (hab:a<m/\m<b/\b<=n) (hlh:lo<=hi) (hlo:a<=lo) (hhi:hi<=m) (hlo2:(a+b)/2+m<=lo+b) (hhi2:hi+a<=(a+b)/2+m ) (hhi3:hi<=(a+b)/2) (hlo3:m<=(a+b)/2+m-hi) :
  ∃ s:Nat,ax (oQ D (a:Int) (m:Int) (b:Int) cmp n) fuel ((lo:Int),(hi:Int))=some (.inl ((s:Int),(s:Int)))/\lo<=s/\s<=hi/\(s=lo \/ ∃ x y,D[s-1]?=some x/\D[(a+b)/2+m-s]?=some y/\lt y x=false)/\(s=hi \/ ∃ x y,D[(a+b)/2+m-1-s]?=some x/\D[s]?=some y/\lt x y=true):=by
 obtain ⟨s,hs,s1,s2,s3,s4⟩:=Dr (body:=oQ D (a:Int) (m:Int) (b:Int) cmp n) lo hi (p5F lt D ((a+b)/2+m-1)) (by
  intro i j hi1 hij hj
  obtain ⟨x,hx⟩:=gol_ (l:=D) (i:=(a+b)/2+m-1-(i+j)/2) (by omega)
  obtain ⟨y,hy⟩:=gol_ (l:=D) (i:=(i+j)/2) (by omega)
  obtain ⟨r,hr,hr2⟩:=hc x y (hS x (ag1 hx)) (hS y (ag1 hy))
  unfold oQ
  dsimp only
  rw [FI (i:=i) (j:=j) (by omega),FI (i:=a) (j:=b) (by omega),Y4 ((a+b)/2) m (by omega),wr1 _ (by omega) (by omega),Xi ((a+b)/2+m-1) ((i+j)/2) (by omega) (by omega),wrapN (by omega)]
  simp only [Mx hij,Sd,Mx (show (i+j)/2<n by omega),Mx (show (a+b)/2+m-1-(i+j)/2<n by omega),agX,gn_ hx,gn_ hy,agU,hr,hr2]
  unfold p5F
  rw [hx,hy]
  dsimp only
  cases lt x y<;>rfl) (by
  intro i
  unfold oQ
  dsimp only
  rw [agY (by omega),agW]) fuel lo hi (ag' _) hlh (ag' _) (by unfold fuel;omega) (.inl rfl) (.inl rfl)
 refine ⟨s,hs,s1,s2,?_,?_⟩
 ·rcases s3 with e|e
  ·exact .inl e
  ·by_cases hsl:s=lo
   ·exact .inl hsl
   ·refine .inr ?_
    obtain ⟨x,hx⟩:=gol_ (l:=D) (i:=s-1) (by omega)
    obtain ⟨y,hy⟩:=gol_ (l:=D) (i:=(a+b)/2+m-s) (by omega)
    unfold p5F at e
    rw [show (a+b)/2+m-1-(s-1)=(a+b)/2+m-s by omega,hy,hx] at e
    exact ⟨x,y,hx,hy,by simpa using e⟩
 ·by_cases hsh:s=hi
  ·exact .inl hsh
  ·rcases s4 with e|e
   ·exact .inl e
   ·refine .inr ?_
    obtain ⟨x,hx⟩:=gol_ (l:=D) (i:=(a+b)/2+m-1-s) (by omega)
    obtain ⟨y,hy⟩:=gol_ (l:=D) (i:=s) (by omega)
    unfold p5F at e
    rw [hx,hy] at e
    exact ⟨x,y,hx,hy,by simpa using e⟩
theorem GU (h:DC lt S) (hc:qz cmp lt S) {n:Nat} (hn2:n<=1000000000) : ∀ (q:Nat) (P A B Q:List α),A.length+B.length<=q->0<A.length->0<B.length->(∀ z∈P++(A++(B++Q)),S z)->fT lt A->fT lt B->(P++(A++(B++Q))).length=n ->
  ∃ M,HY q n (P++(A++(B++Q))) (P.length:Int) ((P.length+A.length:Nat):Int) ((P.length+A.length+B.length:Nat):Int) cmp=some (P++(M++Q))/\fT lt M/\M.Perm (A++B)
 | 0,P,A,B,Q,hq,hA,hB,_,_,_,_=>by omega
 | q+1,P,A,B,Q,hq,hA,hB,hS,aA,aB,hn=>by
  have hn':=hn
  simp only [ag3] at hn'
  have sA : ∀ z∈A,S z:=fun z hz=>hS z (by simp [hz])
  have sB : ∀ z∈B,S z:=fun z hz=>hS z (by simp [hz])
  show ∃ M,xN (HY q) n (P++(A++(B++Q))) (P.length:Int) ((P.length+A.length:Nat):Int) ((P.length+A.length+B.length:Nat):Int) cmp=some (P++(M++Q))/\_
  unfold xN
  rw [Xi (P.length+A.length) P.length (by omega) (by omega),Xi (P.length+A.length+B.length) (P.length+A.length) (by omega) (by omega),show P.length+A.length-P.length=A.length by omega,show P.length+A.length+B.length-(P.length+A.length)=B.length by omega]
  by_cases c1:A.length=1
  ·obtain ⟨x,rfl⟩ : ∃ x,A=[x]:=match A,c1 with|[x],_=>⟨x,rfl⟩
   rw [agZ (show (([x]:List α).length:Int)=1 from rfl),agX]
   obtain ⟨M,k1,k2,k3⟩:=abz h hc hn2 (P:=P) (Q:=Q) (sA x (by simp)) sB aB hn
   exact ⟨M,k1,k2,k3⟩
  ·rw [agY (show ¬ (A.length:Int)=1 by omega),agW]
   by_cases c2:B.length=1
   ·obtain ⟨x,rfl⟩ : ∃ x,B=[x]:=match B,c2 with|[x],_=>⟨x,rfl⟩
    rw [agZ (show (([x]:List α).length:Int)=1 from rfl),agX]
    obtain ⟨M,k1,k2,k3⟩:=abW h hc hn2 (P:=P) (Q:=Q) (sB x (by simp)) sA aA hn
    exact ⟨M,k1,k2,k3⟩
   ·rw [agY (show ¬ (B.length:Int)=1 by omega),agW,FI (by omega)]
    have hD:(P++(A++(B++Q))).length=n:=hn
    have gA : ∀ i y,A[i]?=some y->(P++(A++(B++Q)))[P.length+i]?=some y:=by
     intro i y hy
     have hi:=(agV.1 hy).1
     rw [ag2 (by omega),show P.length+i-P.length=i by omega,ag9 hi]
     exact hy
    have gB : ∀ i y,B[i]?=some y->(P++(A++(B++Q)))[P.length+A.length+i]?=some y:=by
     intro i y hy
     have hi:=(agV.1 hy).1
     rw [ag2 (by omega),ag2 (by omega),show P.length+A.length+i-P.length-A.length=i by omega,ag9 hi]
     exact hy
    generalize hmid:(P.length+(P.length+A.length+B.length))/2=mid

    have key : ∃ s:Nat,((bif decide (((mid:Nat):Int)<((P.length+A.length:Nat):Int)) then (ax (oQ (P++(A++(B++Q))) (P.length:Int) ((P.length+A.length:Nat):Int) ((P.length+A.length+B.length:Nat):Int) cmp n) fuel ((IntKind.i64.wrap ((IntKind.i64.wrap (((mid:Nat):Int)+((P.length+A.length:Nat):Int)))-((P.length+A.length+B.length:Nat):Int))),((mid:Nat):Int))).bind (pg (P++(A++(B++Q))) (P.length:Int) ((P.length+A.length:Nat):Int) ((P.length+A.length+B.length:Nat):Int) cmp n (HY q)) else
      (ax (Dz (P++(A++(B++Q))) (P.length:Int) ((P.length+A.length:Nat):Int) ((P.length+A.length+B.length:Nat):Int) cmp n) fuel ((P.length:Int),((P.length+A.length:Nat):Int))).bind (yU (P++(A++(B++Q))) (P.length:Int) ((P.length+A.length:Nat):Int) ((P.length+A.length+B.length:Nat):Int) cmp n (HY q))))=pg (P++(A++(B++Q))) (P.length:Int) ((P.length+A.length:Nat):Int) ((P.length+A.length+B.length:Nat):Int) cmp n (HY q) (.inl ((s:Int),(s:Int))) /\
      P.length<=s/\s<=P.length+A.length/\P.length+A.length<=mid+(P.length+A.length)-s/\mid+(P.length+A.length)-s<=P.length+A.length+B.length/\s<=mid+(P.length+A.length) /\
      (s=P.length\/mid+(P.length+A.length)-s=P.length+A.length+B.length \/ ∃ x y,(P++(A++(B++Q)))[s-1]?=some x/\(P++(A++(B++Q)))[mid+(P.length+A.length)-s]?=some y/\lt y x=false) /\
      (mid+(P.length+A.length)-s=P.length+A.length\/s=P.length+A.length \/ ∃ x y,(P++(A++(B++Q)))[mid+(P.length+A.length)-1-s]?=some x/\(P++(A++(B++Q)))[s]?=some y/\lt x y=true):=by
     by_cases hm:mid<P.length+A.length
     ·rw [agZ (show ((mid:Nat):Int)<((P.length+A.length:Nat):Int) by omega),agX,Y4 mid (P.length+A.length) (by omega),Xi (mid+(P.length+A.length)) (P.length+A.length+B.length) (by omega) (by omega)]
      obtain ⟨s,hs,s1,s2,s3,s4⟩:=UU h hc hn2 hD hS (a:=P.length) (m:=P.length+A.length) (b:=P.length+A.length+B.length) (lo:=mid+(P.length+A.length)-(P.length+A.length+B.length)) (hi:=mid) (by omega) (by omega) (by omega) (by omega) (by omega) (by omega) (by omega) (by omega)
      rw [hs,agU]
      rw [hmid] at s3 s4
      refine ⟨s,rfl,by omega,by omega,by omega,by omega,by omega,?_,?_⟩
      ·rcases s3 with e|e
       ·exact .inr (.inl (by omega))
       ·exact .inr (.inr e)
      ·rcases s4 with e|e
       ·exact .inl (by omega)
       ·exact .inr (.inr e)
     ·rw [agY (show ¬ ((mid:Nat):Int)<((P.length+A.length:Nat):Int) by omega),agW,afq,afb]
      obtain ⟨s,hs,s1,s2,s3,s4⟩:=UU h hc hn2 hD hS (a:=P.length) (m:=P.length+A.length) (b:=P.length+A.length+B.length) (lo:=P.length) (hi:=P.length+A.length) (by omega) (by omega) (by omega) (by omega) (by omega) (by omega) (by omega) (by omega)
      rw [hs,agU]
      rw [hmid] at s3 s4
      refine ⟨s,rfl,by omega,by omega,by omega,by omega,by omega,?_,?_⟩
      ·rcases s3 with e|e
       ·exact .inl e
       ·exact .inr (.inr e)
      ·rcases s4 with e|e
       ·exact .inr (.inl e)
       ·exact .inr (.inr e)
    obtain ⟨s,hk,s1,s2,s3,s4,s4b,s5,s6⟩:=key
    rw [hk,aaN,FI (by omega),hmid,Y4 mid (P.length+A.length) (by omega),Xi (mid+(P.length+A.length)) s s4b (by omega)]
    obtain ⟨A1,A2,rfl,hA1⟩:=ye (l:=A) (s:=s-P.length) (by omega)
    obtain ⟨B1,B2,rfl,hB1⟩:=ye (l:=B) (s:=mid+(P.length+(A1++A2).length)-s-(P.length+(A1++A2).length)) (by omega)
    simp only [ag3] at hk s1 s2 s3 s4 s4b s5 s6 hA hB hq c1 c2 hmid hB1 hn' ⊢
    have eS:s=P.length+A1.length:=by omega
    have eE:mid+(P.length+(A1.length+A2.length))-s=P.length+(A1.length+A2.length)+B1.length:=by omega
    have eM:mid=P.length+A1.length+B1.length:=by omega

    have h1:A1=[]\/B2=[] \/ ∃ A' x y B',A1=A'++[x]/\B2=y::B'/\lt y x=false:=by
     by_cases z1:0<A1.length
     ·by_cases z2:0<B2.length
      ·obtain ⟨A',x,rfl⟩:=GM z1
       obtain ⟨y,B',rfl⟩:=Hw z2
       refine .inr (.inr ⟨A',x,y,B',rfl,rfl,?_⟩)
       simp only [ag3,ahf,aho] at *
       rcases s5 with e|e|⟨x',y',e1,e2,e3⟩
       ·omega
       ·omega
       ·have g1:=gA A'.length x (by simp)
        have g2:=gB B1.length y (by simp)
        rw [show P.length+A'.length=s-1 by omega,e1] at g1
        try simp only [ag3,ahf,aho] at g2
        rw [show P.length+(A'.length+(0+1)+A2.length)+B1.length=mid+(P.length+(A'.length+(0+1)+A2.length))-s by omega,e2] at g2
        rw [<- ahq g1, <- ahq g2];exact e3
      ·exact .inr (.inl (ahu.1 (by omega)))
     ·exact .inl (ahu.1 (by omega))
    have h2:B1=[]\/A2=[] \/ ∃ A' x y B',B1=A'++[x]/\A2=y::B'/\lt y x=false:=by
     by_cases z1:0<B1.length
     ·by_cases z2:0<A2.length
      ·obtain ⟨B',x,rfl⟩:=GM z1
       obtain ⟨y,A',rfl⟩:=Hw z2
       refine .inr (.inr ⟨B',x,y,A',rfl,rfl,?_⟩)
       have sx:=sB x (by simp)
       have sy:=sA y (by simp)
       simp only [ag3,ahf,aho] at *
       rcases s6 with e|e|⟨x',y',e1,e2,e3⟩
       ·omega
       ·omega
       ·have g1:=gB B'.length x (by simp)
        have g2:=gA A1.length y (by simp)
        try simp only [ag3,ahf,aho] at g1
        rw [show P.length+(A1.length+(A'.length+1))+B'.length=mid+(P.length+(A1.length+(A'.length+1)))-1-s by omega,e1] at g1
        rw [<- eS,e2] at g2
        rw [ahq g1,ahq g2] at e3
        exact h.le_of sx sy e3
      ·exact .inr (.inl (ahu.1 (by omega)))
     ·exact .inl (ahu.1 (by omega))
    have pA:=List.pairwise_append.1 aA
    have pB:=List.pairwise_append.1 aB

    unfold OE
    rw [eE,eS,eM]
    have r1:(bif decide (((P.length+A1.length:Nat):Int)<((P.length+(A1.length+A2.length):Nat):Int))&&decide (((P.length+(A1.length+A2.length):Nat):Int)<((P.length+(A1.length+A2.length)+B1.length:Nat):Int)) then sU n (P++(A1++A2++(B1++B2++Q))) ((P.length+A1.length:Nat):Int) ((P.length+(A1.length+A2.length):Nat):Int) ((P.length+(A1.length+A2.length)+B1.length:Nat):Int) cmp else some (P++(A1++A2++(B1++B2++Q))))=some (P++(A1++(B1++(A2++(B2++Q))))):=by
     have e0:P++(A1++A2++(B1++B2++Q))=(P++A1)++(A2++(B1++(B2++Q))):=by simp
     by_cases z1:0<A2.length
     ·by_cases z2:0<B1.length
      ·rw [agZ (by omega),agZ (by omega),Bool.and_self,agX]
       have hr:=TJ hn2 (P:=P++A1) (A:=A2) (B:=B1) (Q:=B2++Q) cmp z1 z2 (by rw [<- e0];exact hn)
       rw [e0]
       simp only [ag3] at hr
       rw [show P.length+(A1.length+A2.length)=P.length+A1.length+A2.length by omega,hr]
       simp
      ·have:B1=[]:=ahu.1 (by omega)
       subst this
       rw [show decide (((P.length+(A1.length+A2.length):Nat):Int)<((P.length+(A1.length+A2.length)+([]:List α).length:Nat):Int))=false from agY (by simp),Bool.and_false,agW]
       simp
     ·have:A2=[]:=ahu.1 (by omega)
      subst this
      rw [show decide (((P.length+A1.length:Nat):Int)<((P.length+(A1.length+([]:List α).length):Nat):Int))=false from agY (by simp),Bool.false_and,agW]
      simp
    rw [r1,agU]
    have r2 : ∃ M1,(bif decide ((P.length:Int)<((P.length+A1.length:Nat):Int))&&decide (((P.length+A1.length:Nat):Int)<((P.length+A1.length+B1.length:Nat):Int)) then HY q n (P++(A1++(B1++(A2++(B2++Q))))) (P.length:Int) ((P.length+A1.length:Nat):Int) ((P.length+A1.length+B1.length:Nat):Int) cmp else some (P++(A1++(B1++(A2++(B2++Q))))))=some (P++(M1++(A2++(B2++Q))))/\fT lt M1/\M1.Perm (A1++B1):=by
     by_cases z1:0<A1.length
     ·by_cases z2:0<B1.length
      ·rw [agZ (by omega),agZ (by omega),Bool.and_self,agX]
       exact GU h hc hn2 q P A1 B1 (A2++(B2++Q)) (by omega) z1 z2 (fun z hz=>hS z (by simp only [ahl] at hz ⊢;rcases hz with hz|hz|hz|hz|hz|hz<;>simp [hz])) pA.1 pB.1 (by rw [<- hn];simp only [ag3];omega)
      ·have:B1=[]:=ahu.1 (by omega)
       subst this
       rw [show decide (((P.length+A1.length:Nat):Int)<((P.length+A1.length+([]:List α).length:Nat):Int))=false from agY (by simp),Bool.and_false,agW]
       exact ⟨A1,by simp,pA.1,by simp⟩
     ·have:A1=[]:=ahu.1 (by omega)
      subst this
      rw [show decide ((P.length:Int)<((P.length+([]:List α).length:Nat):Int))=false from agY (by simp),Bool.false_and,agW]
      exact ⟨B1,by simp,pB.1,by simp⟩
    obtain ⟨M1,r2,m1,p1⟩:=r2
    rw [r2,agU]
    have hM1:M1.length=A1.length+B1.length:=by rw [p1.length_eq,ag3]
    have r3 : ∃ M2,(bif decide (((P.length+A1.length+B1.length:Nat):Int)<((P.length+(A1.length+A2.length)+B1.length:Nat):Int))&&decide (((P.length+(A1.length+A2.length)+B1.length:Nat):Int)<((P.length+(A1.length+A2.length)+(B1.length+B2.length):Nat):Int)) then HY q n (P++(M1++(A2++(B2++Q)))) ((P.length+A1.length+B1.length:Nat):Int) ((P.length+(A1.length+A2.length)+B1.length:Nat):Int) ((P.length+(A1.length+A2.length)+(B1.length+B2.length):Nat):Int) cmp else some (P++(M1++(A2++(B2++Q)))))=some (P++(M1++(M2++Q)))/\fT lt M2/\M2.Perm (A2++B2):=by
     by_cases z1:0<A2.length
     ·by_cases z2:0<B2.length
      ·rw [agZ (by omega),agZ (by omega),Bool.and_self,agX]
       obtain ⟨M2,k1,k2,k3⟩:=GU h hc hn2 q (P++M1) A2 B2 Q (by omega) z1 z2 (fun z hz=>by
        simp only [ahl] at hz
        rcases hz with (hz|hz)|hz|hz|hz
        ·exact hS z (by simp [hz])
        ·have:=p1.mem_iff.1 hz
         simp only [ahl] at this
         rcases this with hz|hz<;>exact hS z (by simp [hz])
        ·exact hS z (by simp [hz])
        ·exact hS z (by simp [hz])
        ·exact hS z (by simp [hz])) pA.2.1 pB.2.1 (by rw [<- hn];simp only [ag3];omega)
       refine ⟨M2,?_,k2,k3⟩
       simp only [ag3,hM1] at k1
       rw [show P.length+A1.length+B1.length=P.length+(A1.length+B1.length) by omega,show P.length+(A1.length+A2.length)+B1.length=P.length+(A1.length+B1.length)+A2.length by omega,show P.length+(A1.length+A2.length)+(B1.length+B2.length)=P.length+(A1.length+B1.length)+A2.length+B2.length by omega]
       have e0:P++(M1++(A2++(B2++Q)))=(P++M1)++(A2++(B2++Q)):=by simp
       rw [e0,k1]
       simp
      ·have:B2=[]:=ahu.1 (by omega)
       subst this
       rw [show decide (((P.length+(A1.length+A2.length)+B1.length:Nat):Int)<((P.length+(A1.length+A2.length)+(B1.length+([]:List α).length):Nat):Int))=false from agY (by simp),Bool.and_false,agW]
       exact ⟨A2,by simp,pA.2.1,by simp⟩
     ·have:A2=[]:=ahu.1 (by omega)
      subst this
      rw [show decide (((P.length+A1.length+B1.length:Nat):Int)<((P.length+(A1.length+([]:List α).length)+B1.length:Nat):Int))=false from agY (by simp),Bool.false_and,agW]
      exact ⟨B2,by simp,pB.2.1,by simp⟩
    obtain ⟨M2,r3,m2,p2⟩:=r3
    rw [r3]
    refine ⟨M1++M2,by simp,SB h (fun z hz=>?_) aA aB h1 h2 m1 m2 p1 p2,RQ p1 p2⟩
    simp only [ahl] at hz
    rcases hz with (hz|hz)|hz|hz<;>exact hS z (by simp [hz])
end
set_option maxHeartbeats 4000000
section
variable {α:Type} {lt:α->α->Bool} {S:α->Prop} {cmp:α->α->Option Int}
inductive Rn (lt:α->α->Bool) (bs:Nat):List α->Prop
 | last {A:List α} : A.length<=bs->fT lt A->Rn lt bs A
 | cons {A R:List α} : A.length=bs->fT lt A->Rn lt bs R->Rn lt bs (A++R)
inductive Fu (lt:α->α->Bool) (bs:Nat):List α->Prop
 | nil:Fu lt bs []
 | snoc {P A:List α} : Fu lt bs P->A.length=bs->fT lt A->Fu lt bs (P++A)
theorem Fu.rn {bs:Nat} {P:List α} (h:Fu lt bs P) : ∀ {R:List α}, Rn lt bs R->Rn lt bs (P++R):=by
 induction h with
 | nil=>intro R h;exact h
 | @snoc P A _ hl ha ih =>
  intro R h
  rw [ahk]
  exact ih (.cons hl ha h)
theorem Rn.asc {bs:Nat} {l:List α} (h:Rn lt bs l) (hb:0<bs) (hl:l.length<=bs):fT lt l:=by
 cases h with
 | last _ ha=>exact ha
 | @cons A R h1 h2 h3 =>
  have:R=[]:=ahu.1 (by rw [ag3] at hl;omega)
  subst this
  rw [ahs];exact h2
theorem Vo (h:DC lt S) (hc:qz cmp lt S) {n:Nat} (hn2:n<=100000000) : ∀ (N:Nat) (P R:List α),Fu lt 20 P->(∀ z∈P++R,S z)->(P++R).length=n->R.length<N ->
  ∃ P' R' b,ax (lQ (n:Int) cmp n) N (P++R,(P.length:Int),((P.length+20:Nat):Int))=some (.inl (P'++R',(P'.length:Int),b))/\Fu lt 20 P'/\R'.length<20/\(P'++R').Perm (P++R)
 | 0,P,R,_,_,_,hN=>by omega
 | N+1,P,R,hF,hS,hn,hN=>by
  have hn':=hn
  rw [ag3] at hn'
  rw [ax]
  by_cases hb:P.length+20<=n
  ·obtain ⟨M,R1,rfl,hM⟩:=ye (l:=R) (s:=20) (by omega)
   rw [ag3] at hn' hN
   obtain ⟨M',k1,k2,k3⟩:=Gu h hc (n:=n) (by omega) (P:=P) (M:=M) (Q:=R1) (fun z hz=>hS z (by simp [hz])) hn
   have hM':M'.length=20:=by rw [k3.length_eq,hM]
   have hB:lQ (n:Int) cmp n (P++(M++R1),(P.length:Int),((P.length+20:Nat):Int))=some (.next ((P++M')++R1,(((P++M').length:Nat):Int),(((P++M').length+20:Nat):Int))):=by
    unfold lQ
    dsimp only
    rw [agZ (show ((P.length+20:Nat):Int)<=(n:Int) by omega),agX, <- hM,k1,agU,hM,show IntKind.i64.wrap (((P.length+20:Nat):Int)+20)=((P.length+20+20:Nat):Int) from Y4 _ 20 (by omega)]
    simp [hM']
   rw [hB]
   obtain ⟨P',R',b,q1,q2,q3,q4⟩:=Vo h hc hn2 N (P++M') R1 (.snoc hF hM' k2) (fun z hz=>by
    simp only [ahl] at hz
    rcases hz with (hz|hz)|hz
    ·exact hS z (by simp [hz])
    ·exact hS z (by simp [k3.mem_iff.1 hz])
    ·exact hS z (by simp [hz])) (by rw [ag3,ag3];omega) (by omega)
   refine ⟨P',R',b,q1,q2,q3,q4.trans ?_⟩
   rw [ahk]
   exact (k3.append_right R1).append_left P
  ·have hB:lQ (n:Int) cmp n (P++R,(P.length:Int),((P.length+20:Nat):Int))=some (.exit (P++R,(P.length:Int),((P.length+20:Nat):Int))):=by
    unfold lQ
    dsimp only
    rw [agY (by omega),agW]
   rw [hB]
   exact ⟨P,R,_,rfl,hF,by omega, .refl _⟩
theorem Vk (h:DC lt S) (hc:qz cmp lt S) {n bs:Nat} (hn2:n<=100000000) (hb:0<bs) (hb2:bs<=n) : ∀ (N:Nat) (P R:List α),Fu lt (2*bs) P->Rn lt bs R->(∀ z∈P++R,S z)->(P++R).length=n->R.length<N ->
  ∃ P' R' b,ax (lG (n:Int) cmp n (bs:Int)) N (P++R,(P.length:Int),((P.length+2*bs:Nat):Int))=some (.inl (P'++R',(P'.length:Int),b))/\Fu lt (2*bs) P'/\Rn lt bs R'/\R'.length<2*bs/\(P'++R').Perm (P++R)
 | 0,P,R,_,_,_,_,hN=>by omega
 | N+1,P,R,hF,hR,hS,hn,hN=>by
  have hn':=hn
  rw [ag3] at hn'
  rw [ax]
  by_cases hle:P.length+2*bs<=n
  ·
   obtain ⟨A,B,Q,rfl,hA,hB,aA,aB,hQ⟩ : ∃ A B Q,R=A++(B++Q)/\A.length=bs/\B.length=bs/\fT lt A/\fT lt B/\Rn lt bs Q:=by
    cases hR with
    | last h1 _=>omega
    | @cons A R1 h1 h2 h3 =>
     rw [ag3] at hn'
     cases h3 with
     | last g1 g2=>exact ⟨A,R1,[],by rw [ahs],h1,by omega,h2,g2, .last (ahe _) List.Pairwise.nil⟩
     | @cons B R2 g1 g2 g3=>exact ⟨A,B,R2,rfl,h1,g1,h2,g2,g3⟩
   rw [ag3,ag3] at hn' hN
   obtain ⟨M,k1,k2,k3⟩:=GU h hc (n:=n) (by omega) fuel P A B Q (by unfold fuel;omega) (by omega) (by omega) hS aA aB hn
   have hM:M.length=2*bs:=by rw [k3.length_eq,ag3];omega
   have hBo:lG (n:Int) cmp n (bs:Int) (P++(A++(B++Q)),(P.length:Int),((P.length+2*bs:Nat):Int))=some (.next ((P++M)++Q,(((P++M).length:Nat):Int),(((P++M).length+2*bs:Nat):Int))):=by
    unfold lG
    dsimp only
    rw [hA,hB,show P.length+bs+bs=P.length+2*bs by omega] at k1
    rw [agZ (show ((P.length+2*bs:Nat):Int)<=(n:Int) by omega),agX,Y4 P.length bs (by omega),k1,agU,show IntKind.i64.wrap ((2:Int)*(bs:Int))=((2*bs:Nat):Int) by rw [fK (by omega)];omega,Y4 _ (2*bs) (by omega)]
    simp [hM]
   rw [hBo]
   obtain ⟨P',R',b,q1,q2,q3,q4,q5⟩:=Vk h hc hn2 hb hb2 N (P++M) Q (.snoc hF hM k2) hQ (fun z hz=>by
    simp only [ahl] at hz
    rcases hz with (hz|hz)|hz
    ·exact hS z (by simp [hz])
    ·have:=k3.mem_iff.1 hz;simp only [ahl] at this
     rcases this with hz|hz<;>exact hS z (by simp [hz])
    ·exact hS z (by simp [hz])) (by rw [ag3,ag3];omega) (by omega)
   refine ⟨P',R',b,q1,q2,q3,q4,q5.trans ?_⟩
   rw [ahk]
   refine List.Perm.append_left P ?_
   rw [<- ahk]
   exact k3.append_right Q
  ·have hBo:lG (n:Int) cmp n (bs:Int) (P++R,(P.length:Int),((P.length+2*bs:Nat):Int))=some (.exit (P++R,(P.length:Int),((P.length+2*bs:Nat):Int))):=by
    unfold lG
    dsimp only
    rw [agY (by omega),agW]
   rw [hBo]
   exact ⟨P,R,_,rfl,hF,hR,by omega, .refl _⟩
theorem Q7 (h:DC lt S) (hc:qz cmp lt S) {n bs:Nat} (hn2:n<=100000000) (hb:0<bs) (hb2:bs<n) {c:List α} (hR:Rn lt bs c) (hS : ∀ z∈c,S z) (hn:c.length=n) : ∃ c',lJ (n:Int) cmp n (c,(bs:Int))=some (.next (c',((2*bs:Nat):Int)))/\Rn lt (2*bs) c'/\c'.Perm c:=by
 obtain ⟨P,R,b,q1,q2,q3,q4,q5⟩:=Vk h hc hn2 hb (by omega) fuel [] c .nil hR hS hn (by unfold fuel;omega)
 rw [ag0] at q1 q5
 have hl:=q5.length_eq
 rw [ag3,hn] at hl
 have e2:IntKind.i64.wrap ((2:Int)*(bs:Int))=((2*bs:Nat):Int):=by rw [fK (by omega)];omega
 have e3:IntKind.i64.wrap ((bs:Int)*2)=((2*bs:Nat):Int):=by rw [fK (by omega)];omega
 simp only [aho,ahB] at q1
 unfold lJ
 dsimp only
 rw [agZ (show (bs:Int)<(n:Int) by omega),agX,e2]
 rw [show ((0:Nat):Int)=0 from rfl] at q1
 rw [q1,agU]
 unfold vR
 dsimp only
 rw [Y4 P.length bs (by omega),e3]
 have hS' : ∀ z∈P++R,S z:=fun z hz=>hS z (q5.mem_iff.1 hz)
 by_cases hlt:P.length+bs<n
 ·rw [agZ (show ((P.length+bs:Nat):Int)<(n:Int) by omega),agX]
  obtain ⟨A,B,rfl,hA,hB,aA,aB⟩ : ∃ A B,R=A++B/\A.length=bs/\0<B.length/\fT lt A/\fT lt B:=by
   cases q3 with
   | last h1 _=>omega
   | @cons A R1 h1 h2 h3 =>
    rw [ag3] at hl q4
    exact ⟨A,R1,rfl,h1,by omega,h2,h3.asc hb (by omega)⟩
  rw [ag3] at hl q4
  obtain ⟨M,k1,k2,k3⟩:=GU h hc (n:=n) (by omega) fuel P A B [] (by unfold fuel;omega) (by omega) hB (by simpa using hS') aA aB (by rw [ahs,ag3,ag3];omega)
  have hM:M.length=A.length+B.length:=by rw [k3.length_eq,ag3]
  rw [hA,show P.length+bs+B.length=n by omega,ahs] at k1
  rw [k1,agU,ahs]
  exact ⟨P++M,rfl,q2.rn (.last (by omega) k2),(k3.append_left P).trans q5⟩
 ·rw [agY (show ¬ ((P.length+bs:Nat):Int)<(n:Int) by omega),agW]
  exact ⟨P++R,rfl,q2.rn (.last (by omega) (q3.asc hb (by omega))),q5⟩
theorem Vw (h:DC lt S) (hc:qz cmp lt S) {n:Nat} (hn2:n<=100000000) : ∀ (N bs:Nat) (c:List α),0<bs->bs<=2*n+20->Rn lt bs c->(∀ z∈c,S z)->c.length=n->n-bs<N ->
  ∃ c' b,ax (lJ (n:Int) cmp n) N (c,(bs:Int))=some (.inl (c',b))/\fT lt c'/\c'.Perm c
 | 0,bs,c,_,_,_,_,_,hN=>by omega
 | N+1,bs,c,hb,hb2,hR,hS,hn,hN=>by
  rw [ax]
  by_cases hlt:bs<n
  ·obtain ⟨c',k1,k2,k3⟩:=Q7 h hc hn2 hb hlt hR hS hn
   rw [k1]
   obtain ⟨c2,b,q1,q2,q3⟩:=Vw h hc hn2 N (2*bs) c' (by omega) (by omega) k2 (fun z hz=>hS z (k3.mem_iff.1 hz)) (by rw [k3.length_eq];exact hn) (by omega)
   exact ⟨c2,b,q1,q2,q3.trans k3⟩
  ·have hB:lJ (n:Int) cmp n (c,(bs:Int))=some (.exit (c,(bs:Int))):=by
    unfold lJ
    dsimp only
    rw [agY (by omega),agW]
   rw [hB]
   exact ⟨c,_,rfl,hR.asc hb (by omega), .refl _⟩
theorem SQ (h:DC lt S) (hc:qz cmp lt S) {n:Nat} (hn2:n<=100000000) {l:List α} (hS : ∀ z∈l,S z) (hn:l.length=n) : ∃ r,D7 n l (n:Int) cmp=some r/\fT lt r/\r.Perm l:=by
 obtain ⟨P,R,b,q1,q2,q3,q4⟩:=Vo h hc hn2 fuel [] l .nil hS hn (by unfold fuel;omega)
 rw [ag0] at q1 q4
 have hl:=q4.length_eq
 rw [ag3,hn] at hl
 have hS' : ∀ z∈P++R,S z:=fun z hz=>hS z (q4.mem_iff.1 hz)
 obtain ⟨M,k1,k2,k3⟩:=Gu h hc (n:=n) (by omega) (P:=P) (M:=R) (Q:=[]) (fun z hz=>hS' z (by simp [hz])) (by rw [ahs,ag3];omega)
 rw [show P.length+R.length=n by omega,ahs,ahs] at k1
 have hM:M.length=R.length:=k3.length_eq
 obtain ⟨c,b2,w1,w2,w3⟩:=Vw h hc hn2 fuel 20 (P++M) (by omega) (by omega) (q2.rn (.last (by omega) k2)) (fun z hz=>by
  rcases ahl.1 hz with hz|hz
  ·exact hS' z (by simp [hz])
  ·exact hS' z (by simp [k3.mem_iff.1 hz])) (by rw [ag3];omega) (by unfold fuel;omega)
 refine ⟨c,?_,w2,(w3.trans (k3.append_left P)).trans q4⟩
 unfold D7
 simp only [aho,ahB] at q1
 rw [show ((0:Nat):Int)=0 from rfl,show ((20:Nat):Int)=20 from rfl] at q1
 rw [show ((20:Nat):Int)=20 from rfl] at w1
 rw [q1,agU]
 unfold v_
 dsimp only
 rw [k1,agU,w1];rfl
theorem TA (h:DC lt S) (hc:qz cmp lt S) {n:Nat} (hn2:n<=100000000) {l:List α} (hS : ∀ z∈l,S z) (hn:l.length=n) : ∃ r,Dl n l cmp=some r/\fT lt r/\r.Perm l:=by
 obtain ⟨r,h1,h2,h3⟩:=SQ h hc hn2 hS hn
 refine ⟨r,?_,h2,h3⟩
 unfold Dl
 rw [h1];rfl
end
theorem Qg {s:ByteArray} : ∀ {G:List bL}, ik s G=none -> ∀ g∈G,s≠dP g.f.row
 | [],_,_,h=>by cases h
 | g0::G,h,g,hg=>by
  unfold ik at h
  by_cases e:s=dP g0.f.row
  ·rw [if_pos e] at h;cases h
  ·rw [if_neg e] at h
   cases hr:ik s G with
   | none =>
    rcases aha.1 hg with rfl|hg
    ·exact e
    ·exact Qg hr g hg
   | some j=>rw [hr] at h;cases h
theorem aad {G:List bL} (h:G.Pairwise fun a b=>dP a.f.row≠dP b.f.row) (f:aj):(jq G f).Pairwise fun a b=>dP a.f.row≠dP b.f.row:=by
 unfold jq
 cases aL f.valid with
 | false=>exact h
 | true =>
  rw [agX]
  cases hf:ik (dP f.row) G with
  | none =>
   show (G++[(⟨f,[f.valid]⟩:bL)]).Pairwise _
   refine List.pairwise_append.2 ⟨h,by simp,fun a ha b hb=>?_⟩
   rw [ahz.1 hb]
   exact fun e=>Qg hf a ha e.symm
  | some i =>
   show (match G[i]? with|some g=>G.set i (⟨g.f,g.ps++[f.valid]⟩:bL)|none=>G).Pairwise _
   cases hg:G[i]? with
   | none=>exact h
   | some g =>
    show (G.set i (⟨g.f,g.ps++[f.valid]⟩:bL)).Pairwise _
    have hk:(G.set i (⟨g.f,g.ps++[f.valid]⟩:bL)).map (fun a=>dP a.f.row)=G.map fun a=>dP a.f.row:=by
     rw [List.map_set]
     have:(G.map fun a=>dP a.f.row)[i]?=some (dP g.f.row):=by rw [ahg,hg];rfl
     apply List.ext_getElem?
     intro j
     by_cases e:i=j
     ·subst e
      have hlt:=(agV.1 this).1
      rw [ahc hlt,this]
     ·rw [ahd e]
    have hp : ∀ l:List bL,(l.map fun a=>dP a.f.row).Pairwise (fun a b=>a≠b)↔l.Pairwise fun a b=>dP a.f.row≠dP b.f.row:=fun l=>List.pairwise_map
    rw [<- hp,hk,hp]
    exact h
theorem aa_ (l:List aj):(eT l).Pairwise fun a b=>dP a.f.row≠dP b.f.row:=by
 have : ∀ (l:List aj) (G:List bL),(G.Pairwise fun a b=>dP a.f.row≠dP b.f.row)->(l.foldl jq G).Pairwise fun a b=>dP a.f.row≠dP b.f.row:=by
  intro l
  induction l with
  | nil=>intro G h;exact h
  | cons f l ih=>intro G h;exact ih _ (aad h f)
 exact this l [] List.Pairwise.nil
theorem Yd (l:List aj):((eT l).map fun g=>(⟨g.f.row,g.ps⟩:aa)).Pairwise fun a b=>a.row≠b.row:=by
 rw [List.pairwise_map]
 refine (aa_ l).imp ?_
 intro a b h e
 exact h (by show dP a.f.row=dP b.f.row;rw [show a.f.row=b.f.row from e])
def acQ (a b:aa):Bool:=decide (jw a b<0)
theorem Zz {α:Type} {R:α->α->Prop} (hs : ∀ a b,R a b->R b a) : ∀ {l:List α}, l.Pairwise R -> ∀ a∈l, ∀ b∈l,a≠b->R a b
 | [],_,a,ha,_,_,_=>by cases ha
 | x::l,h,a,ha,b,hb,hne=>by
  obtain ⟨h1,h2⟩:=ahP.1 h
  rcases aha.1 ha with ea|ha
  ·rcases aha.1 hb with eb|hb
   ·exact absurd (ea.trans eb.symm) hne
   ·rw [ea];exact h1 b hb
  ·rcases aha.1 hb with eb|hb
   ·rw [eb];exact hs _ _ (h1 a ha)
   ·exact Zz hs h2 a ha b hb hne
theorem ZB {X:List aa} (hd:X.Pairwise fun a b=>a.row≠b.row):DC acQ (fun x=>x∈X):=by
 refine ⟨fun x _=>?_,fun x y z _ _ _ h1 h2=>?_,fun x y hx hy h1 h2=>?_⟩
 ·unfold acQ jw
  rw [tCr_.refl];rfl
 ·exact agZ (tCr_.trans _ _ _ (ahm h1) (ahm h2))
 ·have h1 : ¬ bS x.row y.row<0:=of_decide_eq_false h1
  have h2 : ¬ bS y.row x.row<0:=of_decide_eq_false h2
  have hz:bS x.row y.row=0:=by
   have:=tCr_.anti x.row y.row
   have:=tCr_.anti y.row x.row
   omega
  have hrow:=tCr_.zero _ _ hz
  refine Classical.byContradiction fun hne=>?_
  exact Zz (R:=fun a b:aa=>a.row≠b.row) (fun _ _ h e=>h e.symm) hd x hx y hy hne hrow
theorem Uf (X:List aa):fT acQ (qZ jw X):=by
 refine (MF (c:=jw) (fun a b d h1 h2=>?_) (fun a b h=>?_) X).imp ?_
 ·have:=tCr_.anti
  by_cases e1:bS a.row b.row=0
  ·have:=tCr_.zero _ _ e1;show bS a.row d.row<=0;rw [this];exact h2
  ·by_cases e2:bS b.row d.row=0
   ·have:=tCr_.zero _ _ e2;show bS a.row d.row<=0;rw [<- this];exact h1
   ·exact Int.le_of_lt (tCr_.trans _ _ _ (show bS a.row b.row<0 by have:bS a.row b.row<=0:=h1;omega) (show bS b.row d.row<0 by have:bS b.row d.row<=0:=h2;omega))
 ·have:=tCr_.anti b.row a.row
  show bS b.row a.row<=0
  have h : ¬ bS a.row b.row<0:=h
  have h3:=tCr_.anti a.row b.row
  omega
 ·intro a b h
  have h:bS a.row b.row<=0:=h
  refine agY ?_
  show ¬ bS b.row a.row<0
  have:=tCr_.anti b.row a.row
  omega
theorem aae (X:List aa) (hr : ∀ s∈X,s.row.length<=4000000000000):qz Cj acQ (fun x=>x∈X):=fun x y hx hy=>⟨_,Yl x y (hr x hx) (hr y hy),rfl⟩
theorem XW {X:List aa} (hd:X.Pairwise fun a b=>a.row≠b.row) (hl:X.length<=100000000) (hr : ∀ s∈X,s.row.length<=4000000000000):Dl X.length X Cj=some (qZ jw X):=by
 obtain ⟨r,h1,h2,h3⟩:=TA (ZB hd) (aae X hr) hl (fun z hz=>hz) rfl
 rw [h1,Mh (ZB hd) (fun x hx=>h3.mem_iff.1 hx) h2 (Uf X) (h3.trans (wN jw X).symm)]
theorem Wh (v:Nat) (X:List aa):dC ae 2 v X = .row v ((X.map kT).map uB) 2:=by
 unfold dC
 rw [List.map_map,List.map_map]
 rfl
theorem WO (v:Nat) {X:List aa} {n:Nat} (hn:X.length=n) (hd:X.Pairwise fun a b=>a.row≠b.row) (hl:n<=100000000) (hr : ∀ s∈X,s.row.length<=4000000000000):Run Tryz.prog 154 [.row v ((X.map kT).map uB) 2] [.one (.sl 0 v 0 n), .one (.c (.fn 155 []))] [.row v (((qZ jw X).map kT).map uB) 2] (.tup []):=by
 subst hn
 have:=RD (n:=X.length) (a_x:=X) (a_cmp:=Cj) (v:=v) (F_a_cmp:=155) (caps_a_cmp:=[]) (fun y0 y1 r h=>Ww h) (XW hd hl hr)
 rw [Wh,Wh] at this
 exact this
end Go.Proofs.YtcehmafobkhdbaaGreatDoor
