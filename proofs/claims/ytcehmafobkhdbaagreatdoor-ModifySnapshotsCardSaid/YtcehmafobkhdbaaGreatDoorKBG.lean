/- Parts of the proof, joined. No condition. -/
import Derived.Test.YtcehmafobkhdbaaGreatDoorKAA
import Derived.Test.YtcehmafobkhdbaaGreatDoorKBF
import Derived.Test.YtcehmafobkhdbaaGreatDoorKAZ
set_option linter.unusedSimpArgs false
set_option linter.unusedVariables false
namespace Go.Proofs.YtcehmafobkhdbaaGreatDoor
open Go.RowKit Go.MapKept
theorem fo_ {α β:Type} (f:α->β) : ∀ l:List α,(l.flatMap fun x=>[f x])=l.map f
 | []=>rfl
 | x::l=>by rw [ahw,fo_ f l];rfl
theorem QJ (ps:List aI) (hn:ps.length<=100000):yw ps=some (AU (ones ps)):=by
 unfold yw
 rw [df (l:=ps) (fun p=>[(⟨p,1⟩:FE)]) 5864062014805 ?_ ?_ (by unfold fuel;omega) [] (by rw [fo_];simp;omega)]
 ·rw [agU,fo_,ag0]
  show (aaU (ones ps)).bind _=_
  unfold aaU
  rw [show decide ((ones ps).length<=100000)=true from agZ (by simpa [ones] using hn)]
  rfl
 ·intro s i x hx hs
  have hi:=(agV.1 hx).1
  unfold sj
  dsimp only
  rw [aV hx,agX,gn_ hx]
  simp only [agU]
  rw [show decide (s.length+1<=5864062014805)=true from agZ (by simpa using hs),agX,wrapN (by omega)]
 ·intro s
  unfold sj
  dsimp only
  rw [lF_,agW]
theorem MR (ps:List aI):(bR ps).length<=600*(1+2*ps.length):=by
 unfold bR EC
 rw [ag7,(St.Fs _).2.length_eq]
 have h1:=St.zS ((AU (ones ps)).map toS) 600
 have h2:St.mR ((AU (ones ps)).map toS)=St.mh ((AU (ones ps)).map toS) 600:=rfl
 rw [h2]
 have h3:((AU (ones ps)).map toS).length<=1+2*ps.length:=by
  rw [ag7]
  unfold AU
  rw [ag7]
  have:=St.Vp ((ones ps).map toC)
  simpa [ones] using this
 exact Nat.le_trans h1 (Nat.mul_le_mul_left _ h3)
theorem Zr (ps:List aI) (hn:ps.length<=300) (hv : ∀ p∈ps,aL p=true):Sb ps=some (bR ps):=by
 unfold Sb
 by_cases h1:ps.length=1
 ·rw [show decide (((ps.length:Nat):Int)=1)=true from agZ (by omega),agX]
  match ps,h1 with
  | [p],_=>rw [Ye p (hv p (by simp))]
 ·rw [show decide (((ps.length:Nat):Int)=1)=false from agY (by omega),agW,QJ ps (by omega),agU]
  unfold Vs
  rw [if_pos (C_ ps hn)]
  rfl
theorem NJ (l:List aj) (r:List Val):(bD l r).length<=l.length:=by unfold bD;rw [ag7];exact List.length_filter_le _ _
theorem Gg (l:List aj) (r:List Val) : ∀ p∈bD l r,aL p=true:=by
 intro p hp
 obtain ⟨f,hf,rfl⟩:=aht.1 hp
 have:=(List.mem_filter.1 hf).2
 rw [ahb] at this
 exact this.1
def Ll (s:aa):List aj:=(bR s.periods).map fun p=>⟨s.row,p⟩
theorem VG (l:List aj) (h:bM l) : ∃ R,fV l R/\Dw l=some (fO l R):=by
 obtain ⟨R,hR,hr⟩:=J9 l
 refine ⟨R,hR,?_⟩
 have hmem : ∀ s∈rD l,s.periods.length<=300/\(∀ p∈s.periods,aL p=true)/\s.row.length<=1000:=by
  intro s hs
  rw [hr] at hs
  obtain ⟨r,hrR,rfl⟩:=aht.1 hs
  obtain ⟨f,hf,_,e⟩:=(hR.2 r).1 hrR
  refine ⟨Nat.le_trans (NJ l r) h.1,Gg l r,?_⟩
  show r.length<=1000
  rw [<- e];exact (h.2 f hf).1
 have hlen:(rD l).length<=300:=by
  have h1:=(wN jw ((eT l).map fun g=>(⟨g.f.row,g.ps⟩:aa))).length_eq
  have h2:=Bu l
  have h3:=h.1
  show (qZ jw _).length<=300
  rw [h1,ag7];omega
 have hg : ∀ s∈rD l,(Ll s).length<=360600:=by
  intro s hs
  unfold Ll
  rw [ag7]
  have h1:=MR s.periods
  have h2:=(hmem s hs).1
  omega
 have htot:((rD l).flatMap Ll).length<=300*360600:=by
  have : ∀ (L:List aa),(∀ s∈L,(Ll s).length<=360600)->(L.flatMap Ll).length<=L.length*360600:=by
   intro L
   induction L with
   | nil=>intro _;simp
   | cons s L ih =>
    intro hL
    have h1:=ih fun x hx=>hL x (ahh _ hx)
    have h2:=hL s (by simp)
    rw [ahw,ag3,ahf];omega
  exact Nat.le_trans (this _ hg) (ahv _ hlen)
 have hb:fO l R=(rD l).flatMap Ll:=by
  rw [hr,List.flatMap_map];rfl
 unfold Dw Oe
 have e1:Du l=some (rD l):=by unfold Du;rw [if_pos h]
 rw [e1,agU]
 generalize rD l=X at hmem hlen hg htot hb ⊢
 rw [df (l:=X) Ll 3518437208883 ?_ ?_ (by unfold fuel;omega) [] (by simp only [aho];omega)]
 ·simp only [agU,Ap,ag0,hb]
 ·intro s i x hx hs
  have hi:=(agV.1 hx).1
  obtain ⟨m1,m2,m3⟩:=hmem x (ag1 hx)
  unfold zW
  dsimp only
  rw [aV hx,agX,gn_ hx]
  simp only [agU]
  rw [Zr x.periods (by omega) m2,agU]
  have hgl:(Ll x).length=(bR x.periods).length:=by unfold Ll;rw [ag7]
  have hgx:=hg x (ag1 hx)
  rw [df (l:=bR x.periods) (fun p=>[(⟨x.row,p⟩:aj)]) 3518437208883 ?_ ?_ (by unfold fuel;omega) s (by rw [fo_,ag7];omega)]
  ·rw [agU,fo_]
   show some (Step.next (s++Ll x,_))=_
   rw [wrapN (by omega)]
  ·intro s' j y hy hs'
   have hj:=(agV.1 hy).1
   unfold zZ
   dsimp only
   rw [aV hy,agX,gn_ hy]
   simp only [agU]
   rw [show decide (x.row.length<=4398046511104)=true from agZ (by omega),agX,show decide (s'.length+1<=3518437208883)=true from agZ (by simpa using hs'),agX,wrapN (by omega)]
  ·intro s'
   unfold zZ
   dsimp only
   rw [lF_,agW]
 ·intro s
  unfold zW
  dsimp only
  rw [lF_,agW]
set_option maxRecDepth 100000
def UD (l:List aj):Prop:=l.Pairwise fun a b=>bS a.row b.row<=0
def leF (x y:aj):Bool:=XC x.row y.row
theorem sJ (x y:aj):leF x y=true↔bS x.row y.row<=0:=pV x.row y.row
theorem qc {a b:List aj} (ha:a.length<=1000000) (hb:b.length<=1000000) (hra : ∀ r∈a,r.row.length<=1000000) (hrb : ∀ r∈b,r.row.length<=1000000) : ∀ (n i k:Nat) (out:List aj),i<=a.length->k<=b.length->out.length=i+k->(a.length-i)+(b.length-k)<n->(ax (dI a b) n (out,(i:Int),(k:Int))).bind pY=some (out++List.merge (a.drop i) (b.drop k) leF)
 | 0,_,_,_,_,_,_,h=>by omega
 | n+1,i,k,out,h1,h2,ho,hn=>by
  have hg:decide (out.length+1<=3518437208883)=true:=agZ (by omega)
  rw [ax]
  by_cases hlt:i<a.length
  ·obtain ⟨x,hx⟩:=gol_ hlt
   have ex:=(agV.1 hx).2
   have hne:decide ((i:Int)=((a.length:Nat):Int))=false:=agY (by omega)
   have ihA:=qc ha hb hra hrb n (i+1) k (out++[x]) (by omega) (by omega) (by simp;omega) (by omega)
   by_cases hlb:k<b.length
   ·obtain ⟨y,hy⟩:=gol_ hlb
    have ey:=(agV.1 hy).2
    have ihB:=qc ha hb hra hrb n i (k+1) (out++[y]) (by omega) (by omega) (by simp;omega) (by omega)
    have eb:dI a b (out,(i:Int),(k:Int))=bif decide (bS y.row x.row<0) then some (.next (out++[y],(i:Int),((k+1:Nat):Int))) else some (.next (out++[x],((i+1:Nat):Int),(k:Int))):=by
     unfold dI
     dsimp only
     rw [aV hx,agX,hne,agW,aV hy,agX,gn_ hy,gn_ hx]
     simp only [agU]
     rw [oz y.row x.row (by have:=hrb y (ag1 hy);omega) (by have:=hra x (ag1 hx);omega),wrapN (by omega),wrapN (by omega),hg]
     rfl
    rw [eb,ahp hlt,ahp hlb,ex,ey,List.cons_merge_cons]
    rw [ahp hlb,ey] at ihA
    rw [ahp hlt,ex] at ihB
    by_cases hc:bS y.row x.row<0
    ·rw [show decide (bS y.row x.row<0)=true from agZ hc,agX,if_neg (by unfold leF XC;simp [hc])]
     dsimp only
     rw [ihB];simp
    ·rw [show decide (bS y.row x.row<0)=false from agY hc,agW,if_pos (by unfold leF XC;simp [hc])]
     dsimp only
     rw [ihA];simp
   ·have hk:k=b.length:=by omega
    have eb:dI a b (out,(i:Int),(k:Int))=some (.next (out++[x],((i+1:Nat):Int),(k:Int))):=by
     unfold dI
     dsimp only
     rw [aV hx,agX,hne,agW,hk,lF_,agW,gn_ hx]
     simp only [agU]
     rw [wrapN (by omega),hg]
     rfl
    rw [eb]
    dsimp only
    rw [ihA,ahp hlt,ex,hk,ahO,List.merge_right,List.merge_right]
    simp
  ·have hi:i=a.length:=by omega
   subst hi
   by_cases hlb:k<b.length
   ·obtain ⟨y,hy⟩:=gol_ hlb
    have ey:=(agV.1 hy).2
    have ihB:=qc ha hb hra hrb n a.length (k+1) (out++[y]) (by omega) (by omega) (by simp;omega) (by omega)
    have eb:dI a b (out,((a.length:Nat):Int),(k:Int))=some (.next (out++[y],((a.length:Nat):Int),((k+1:Nat):Int))):=by
     unfold dI
     dsimp only
     rw [lF_,agW,aV hy,agX,show decide (((a.length:Nat):Int)=((a.length:Nat):Int))=true from agZ rfl,agX,gn_ hy]
     simp only [agU]
     rw [wrapN (by omega),hg]
     rfl
    rw [eb]
    dsimp only
    rw [ihB,ahp hlb,ey,ahO,List.nil_merge,List.nil_merge]
    simp
   ·have hk:k=b.length:=by omega
    subst hk
    have eb:dI a b (out,((a.length:Nat):Int),((b.length:Nat):Int))=some (.exit (out,((a.length:Nat):Int),((b.length:Nat):Int))):=by
     unfold dI
     dsimp only
     rw [lF_,agW,lF_,agW]
    rw [eb,ahO,ahO,List.nil_merge,ahs]
    rfl
theorem PQ {a b:List aj} (ha:a.length<=1000000) (hb:b.length<=1000000) (hra : ∀ r∈a,r.row.length<=1000000) (hrb : ∀ r∈b,r.row.length<=1000000):vG a b=some (List.merge a b leF):=by
 unfold vG
 have:=qc ha hb hra hrb fuel 0 0 [] (ahe _) (ahe _) rfl (by unfold fuel;omega)
 rw [show (((0:Nat):Int))=0 from rfl] at this
 rw [this];simp
theorem Te {a b:List aj} (ha:UD a) (hb:UD b):UD (List.merge a b leF):=by
 have:=List.pairwise_merge (le:=leF) (fun x y z h1 h2=>(sJ x z).2 (AZ _ _ _ ((sJ x y).1 h1) ((sJ y z).1 h2))) (fun x y=>by
  rw [Bool.or_eq_true,sJ,sJ];exact tCr_.total x.row y.row) a b (ha.imp fun h=>(sJ _ _).2 h) (hb.imp fun h=>(sJ _ _).2 h)
 exact this.imp fun h=>(sJ _ _).1 h
theorem RJ : ∀ (n:Nat) (l:List aj),l.length<=n->l.length<=1000000->(∀ r∈l,r.row.length<=1000000) -> ∃ r,yM (n+1) l=some r/\UD r/\r.Perm l:=by
 intro n
 induction n with
 | zero =>
  intro l h _ _
  have:l=[]:=by cases l with|nil=>rfl|cons _ _=>simp at h
  subst this
  exact ⟨[],rfl,List.Pairwise.nil,List.Perm.refl _⟩
 | succ n ih =>
  intro l h hl hr
  match l,h,hl,hr with
  | [],_,_,_=>exact ⟨[],rfl,List.Pairwise.nil,List.Perm.refl _⟩
  | [x],_,_,hr=>exact ⟨[x],rfl,by simp [UD],List.Perm.refl _⟩
  | x::y::t,h,hl,hr =>
   generalize hL:x::y::t=l at h hl hr
   have h2:2<=l.length:=by rw [<- hL];simp
   have hm:IntKind.i64.wrap (((l.length:Nat):Int).tdiv (2:Int))=((l.length/2:Nat):Int):=by
    rw [show ((l.length:Nat):Int).tdiv 2=((l.length/2:Nat):Int) from rfl]
    exact ko (by omega) (by omega)
   have s1:lT l 0 ((l.length/2:Nat):Int)=some (l.take (l.length/2)):=by
    unfold lT
    rw [if_pos (by omega),Int.toNat_natCast];rfl
   have s2:lT l ((l.length/2:Nat):Int) ((l.length:Nat):Int)=some (l.drop (l.length/2)):=by
    unfold lT
    rw [if_pos (by omega),Int.toNat_natCast,Int.toNat_natCast,List.take_length]
   obtain ⟨r1,e1,a1,p1⟩:=ih (l.take (l.length/2)) (by simp;omega) (by simp;omega) fun r hr'=>hr r (ahQ hr')
   obtain ⟨r2,e2,a2,p2⟩:=ih (l.drop (l.length/2)) (by simp;omega) (by simp;omega) fun r hr'=>hr r (List.mem_of_mem_drop hr')
   refine ⟨List.merge r1 r2 leF,?_,Te a1 a2,?_⟩
   ·show uP (yM (n+1)) l=_
    unfold uP
    rw [show decide (((l.length:Nat):Int)<2)=false from agY (by omega),agW,show decide ((2:Int)≠0)=true from rfl,agX,hm,s1]
    simp only [agU]
    rw [e1,agU,s2,agU,e2,agU]
    rw [PQ (by rw [p1.length_eq];simp;omega) (by rw [p2.length_eq];simp;omega) (fun r hr'=>hr r (ahQ (p1.mem_iff.1 hr'))) (fun r hr'=>hr r (List.mem_of_mem_drop (p2.mem_iff.1 hr')))]
    rfl
   ·refine (List.merge_perm_append leF).trans ((p1.append p2).trans ?_)
    rw [ahE]
theorem eH (p:aI):iP p=some (aL p):=by
 unfold iP aL
 cases h1:decide (0<=p.lo)<;>cases h2:decide (p.lo<p.hi)<;>cases h3:decide (p.hi<=1099511627776)<;>simp_all
theorem PL (x:List Val) (h:x.length<=1000000):mQ x x=some true:=by
 unfold mQ
 rw [oz x x (by omega) (by omega),agU,tCr_.refl];rfl
theorem JM (r:List Val) (hr:r.length<=1000000) (k:Nat) (hk:k<=300):nL (List.replicate k r)=some (if k=0 then [] else [r]):=by
 unfold nL
 have hp:=lS (List.replicate k r)
 have hs:xK (List.replicate k r)=List.replicate k r:=by
  refine List.eq_replicate_iff.2 ⟨by rw [hp.length_eq];simp,fun b hb=>?_⟩
  exact (List.mem_replicate.1 (hp.mem_iff.1 hb)).2
 rw [FK _ (by simpa using hk) (fun x hx=>by rw [(List.mem_replicate.1 hx).2];exact hr),agU,hs]
 have hlen:(List.replicate k r).length=k:=by simp
 have get : ∀ i,i<k->(List.replicate k r)[i]?=some r:=fun i hi=>by rw [List.getElem?_replicate];simp [hi]
 have loop : ∀ (n i:Nat),1<=i->i<=k->k-i<n->ax (bU (List.replicate k r)) n ([r],(i:Int))=some (.inl ([r],(k:Int))):=by
  intro n
  induction n with
  | zero=>intro i _ _ h;omega
  | succ n ih =>
   intro i h1 h2 hn
   rw [ax]
   by_cases hlt:i<k
   ·have hx:=get i hlt
    have e:bU (List.replicate k r) ([r],(i:Int))=some (.next ([r],((i+1:Nat):Int))):=by
     unfold bU
     dsimp only
     rw [aV hx,agX,show decide ((i:Int)=0)=false from agY (by omega),agW,show IntKind.i64.wrap ((i:Int)-1)=((i-1:Nat):Int) from ko (by omega) (by omega),gn_ (get (i-1) (by omega)),gn_ hx]
     simp only [agU]
     rw [PL r hr]
     simp only [agU,Bool.not_true,agW]
     rw [wrapN (by omega)]
    rw [e]
    exact ih (i+1) (by omega) (by omega) (by omega)
   ·have:i=k:=by omega
    subst this
    have e:bU (List.replicate i r) ([r],(i:Int))=some (.exit ([r],(i:Int))):=by
     unfold bU
     dsimp only
     rw [show decide ((i:Int)<(((List.replicate i r).length:Nat):Int))=false from agY (by simp),agW]
    rw [e]
 by_cases h0:k=0
 ·subst h0
  rw [if_pos rfl]
  have e:bU (List.replicate 0 r) ([],0)=some (.exit ([],0)):=by
   unfold bU
   rfl
  show (ax (bU (List.replicate 0 r)) (4611686018427387903+1) ([],0)).bind kV=_
  rw [ax,e]
  rfl
 ·rw [if_neg h0]
  have hx:=get 0 (by omega)
  have e:bU (List.replicate k r) ([],0)=some (.next ([r],((1:Nat):Int))):=by
   have hg:=gn_ hx
   unfold bU
   dsimp only
   rw [show decide ((0:Int)<(((List.replicate k r).length:Nat):Int))=true from agZ (by simp;omega),agX,show decide ((0:Int)=0)=true from rfl,agX]
   rw [show aH (List.replicate k r) 0=some r from hg]
   rfl
  show (ax (bU (List.replicate k r)) (4611686018427387903+1) ([],0)).bind kV=_
  rw [ax,e]
  dsimp only
  rw [loop 4611686018427387903 1 (by omega) (by omega) (by omega)]
  rfl
theorem Qj (s:List aj) (r:List Val) (hr:r.length<=1000000) (hs : ∀ f∈s,f.row=r) (hn:s.length<=300):D_ s=some (if s.any fun f=>aL f.valid then [r] else []):=by
 unfold D_
 have hfm : ∀ l:List aj,(∀ f∈l,f.row=r)->(l.flatMap fun f=>if aL f.valid then [f.row] else [])=List.replicate (l.countP fun f=>aL f.valid) r:=by
  intro l
  induction l with
  | nil=>intro _;rfl
  | cons f l ih =>
   intro h
   rw [ahw,ih fun x hx=>h x (ahh _ hx),List.countP_cons,h f (by simp)]
   by_cases hv:aL f.valid=true
   ·rw [if_pos hv,if_pos hv,List.replicate_succ];rfl
   ·rw [if_neg hv,if_neg hv];rfl
 have hc:s.countP (fun f=>aL f.valid)<=s.length:=List.countP_le_length
 rw [df (l:=s) (fun f=>if aL f.valid then [f.row] else []) 5864062014805 ?_ ?_ (by unfold fuel;omega) [] (by rw [hfm s hs];simp;omega)]
 ·rw [agU,hfm s hs,ag0]
  show (nL _).bind _=_
  rw [JM r hr _ (by omega),agU]
  by_cases ha:(s.any fun f=>aL f.valid)=true
  ·rw [if_pos ha,if_neg]
   intro e
   obtain ⟨f,hf,hv⟩:=List.any_eq_true.1 ha
   have:=(List.countP_pos_iff (p:=fun f:aj=>aL f.valid)).2 ⟨f,hf,hv⟩
   omega
  ·rw [if_neg ha,if_pos]
   rw [List.countP_eq_zero]
   intro f hf hv
   exact ha (List.any_eq_true.2 ⟨f,hf,hv⟩)
 ·intro o i x hx ho
  have hi:=(agV.1 hx).1
  unfold wG
  dsimp only
  rw [aV hx,agX,gn_ hx]
  simp only [agU]
  rw [eH,agU]
  by_cases hv:aL x.valid=true
  ·rw [if_pos hv] at ho ⊢
   rw [hv,agX,show decide (o.length+1<=5864062014805)=true from agZ (by simpa using ho),agX,wrapN (by omega)]
  ·rw [if_neg hv]
   rw [Bool.not_eq_true] at hv
   rw [hv,agW,wrapN (by omega),ahs]
 ·intro o
  unfold wG
  dsimp only
  rw [lF_,agW]
def eQ (l:List aj) (r:List Val):List aI:=(l.filter fun f=>decide (f.row=r)).map (·.valid)
theorem O8 (s:List aj) (r:List Val) (hr:r.length<=1000000) (hs : ∀ f∈s,f.row.length<=1000000) (hn:s.length<=1000):ul s r=some (AU (ones (eQ s r))):=by
 unfold ul
 have hfm : ∀ l:List aj,(l.flatMap fun f=>if f.row=r then [(⟨f.valid,1⟩:FE)] else [])=ones (eQ l r):=by
  intro l
  induction l with
  | nil=>rfl
  | cons f l ih =>
   rw [ahw,ih]
   unfold eQ ones
   by_cases e:f.row=r
   ·rw [if_pos e,List.filter_cons_of_pos (by simpa using e)];rfl
   ·rw [if_neg e,List.filter_cons_of_neg (by simpa using e)];rfl
 have hl:(eQ s r).length<=s.length:=by unfold eQ;rw [ag7];exact List.length_filter_le _ _
 have hl2:(ones (eQ s r)).length=(eQ s r).length:=by unfold ones;simp
 rw [df (l:=s) (fun f=>if f.row=r then [(⟨f.valid,1⟩:FE)] else []) 5864062014805 ?_ ?_ (by unfold fuel;omega) [] (by rw [hfm];simp;omega)]
 ·rw [agU,hfm,ag0]
  show (aac _).bind _=_
  unfold aac
  rw [show decide ((ones (eQ s r)).length<=100000)=true from agZ (by omega)]
  rfl
 ·intro o i x hx ho
  have hi:=(agV.1 hx).1
  unfold pX
  dsimp only
  rw [aV hx,agX,gn_ hx]
  simp only [agU]
  rw [oz x.row r (by have:=hs x (ag1 hx);omega) (by omega),agU]
  by_cases e:x.row=r
  ·rw [if_pos e] at ho ⊢
   rw [show decide (bS x.row r=0)=true from agZ (by rw [e];exact tCr_.refl r),agX,show decide (o.length+1<=5864062014805)=true from agZ (by simpa using ho),agX,wrapN (by omega)]
  ·rw [if_neg e,show decide (bS x.row r=0)=false from agY fun q=>e (tCr_.zero _ _ q),agW,wrapN (by omega),ahs]
 ·intro o
  unfold pX
  dsimp only
  rw [lF_,agW]
theorem Jq (r:List Val) (ps:List aI) (hn:ps.length<=1000000):wL r ps=some (ps.map fun p=>⟨r,p⟩):=by
 unfold wL
 rw [df (l:=ps) (fun p=>[(⟨r,p⟩:aj)]) 3518437208883 ?_ ?_ (by unfold fuel;omega) [] (by rw [fo_];simp;omega)]
 ·rw [agU,fo_,ag0];rfl
 ·intro o i x hx ho
  have hi:=(agV.1 hx).1
  unfold wR
  dsimp only
  rw [aV hx,agX,gn_ hx]
  simp only [agU]
  rw [show decide (o.length+1<=3518437208883)=true from agZ (by simpa using ho),agX,wrapN (by omega)]
 ·intro o
  unfold wR
  dsimp only
  rw [lF_,agW]
theorem NF (r:List Val) : ∀ l:List aj, ∃ s t,l=s++t/\(∀ f∈s,f.row=r)/\(∀ f u,t=f::u->f.row≠r)
 | []=>⟨[],[],rfl,(fun _ h=>by cases h),(fun _ _ h=>by cases h)⟩
 | f::l=>by
  by_cases e:f.row=r
  ·obtain ⟨s,t,h1,h2,h3⟩:=NF r l
   refine ⟨f::s,t,by rw [h1];rfl,fun g hg=>?_,h3⟩
   rcases aha.1 hg with rfl|hg
   ·exact e
   ·exact h2 g hg
  ·exact ⟨[],f::l,rfl,(fun _ h=>by cases h),(fun g u h=>by injection h with h1 h2;subst h1;exact e)⟩
theorem ZO {α:Type} (P s t:List α):lT (P++s++t) ((P.length:Nat):Int) (((P.length+s.length:Nat):Nat):Int)=some s:=by
 unfold lT
 rw [if_pos (by simp;omega),Int.toNat_natCast,Int.toNat_natCast]
 congr 1
 have e:(P++s++t).take (P.length+s.length)=P++s:=by
  rw [List.take_append_of_le_length (by simp)]
  rw [ahy (by simp)]
 rw [e,List.drop_left]
theorem TR (s t:List aj) (r:List Val):eQ (s++t) r=eQ s r++eQ t r:=by unfold eQ;rw [List.filter_append,ag8]
theorem Gw {l:List aj} {r:List Val} (h : ∀ f∈l,f.row≠r):eQ l r=[]:=by
 unfold eQ
 rw [List.map_eq_nil_iff,List.filter_eq_nil_iff]
 intro f hf e
 exact h f hf (ahm e)
def adJ (l:List aj) (G:List cu):Prop:=fV l (G.map (·.row)) /\ ∀ g∈G,g.steps=AU (ones (eQ l g.row))
theorem run_end (P s t:List aj) (r:List Val) (f0:aj) (hf0:f0.row=r) (hrl : ∀ f∈P++s++t,f.row.length<=1000000) (hn:(P++s++t).length<=300) (hs : ∀ f∈s,f.row=r) (hs0:s[0]?=some f0) (ht : ∀ f u,t=f::u->f.row≠r) :
  ∀ (n j:Nat),j<=s.length->s.length-j<n->ax (iT (P++s++t) ((P.length:Nat):Int)) n (((P.length+j:Nat):Nat):Int)=some (.inl (((P.length+s.length:Nat):Nat):Int)):=by
 have hi:(P++s++t)[P.length]?=some f0:=by
  rw [ahk,ag2 (ag' _),Nat.sub_self,ag9 (by have:=(agV.1 hs0).1;omega)]
  exact hs0
 have hnl:P.length+s.length<=300:=by simp only [ag3] at hn;omega
 intro n
 induction n with
 | zero=>intro j _ h;omega
 | succ n ih =>
  intro j hj hn2
  rw [ax]
  by_cases hlt:j<s.length
  ·obtain ⟨x,hx⟩:=gol_ hlt
   have hx2:(P++s++t)[P.length+j]?=some x:=by
    rw [ahk,ag2 (by omega),show P.length+j-P.length=j by omega,ag9 hlt]
    exact hx
   have hxm:=ag1 hx2
   have him:=ag1 hi
   have e:iT (P++s++t) ((P.length:Nat):Int) (((P.length+j:Nat):Nat):Int)=some (.next (((P.length+(j+1):Nat):Nat):Int)):=by
    unfold iT
    dsimp only
    rw [aV hx2,agX,gn_ hx2,gn_ hi]
    simp only [agU]
    rw [oz x.row f0.row (by have:=hrl x hxm;omega) (by have:=hrl f0 him;omega),agU]
    rw [hs x (ag1 hx),hf0,tCr_.refl]
    rw [show decide ((0:Int)=0)=true from rfl,agX,wrapN (by omega)]
    rfl
   rw [e]
   exact ih (j+1) (by omega) (by omega)
  ·have hje:j=s.length:=by omega
   subst hje
   have e:iT (P++s++t) ((P.length:Nat):Int) (((P.length+s.length:Nat):Nat):Int)=some (.exit (((P.length+s.length:Nat):Nat):Int)):=by
    unfold iT
    dsimp only
    cases t with
    | nil =>
     rw [show decide ((((P.length+s.length:Nat):Nat):Int)<(((P++s++([]:List aj)).length:Nat):Int))=false from agY (by simp),agW]
    | cons y u =>
     have hy:(P++s++y::u)[P.length+s.length]?=some y:=by
      rw [ag2 (by simp),ag3,Nat.sub_self];rfl
     rw [aV hy,agX,gn_ hy,gn_ hi]
     simp only [agU]
     rw [oz y.row f0.row (by have:=hrl y (ag1 hy);omega) (by have:=hrl f0 (ag1 hi);omega),agU]
     rw [show decide (bS y.row f0.row=0)=false from agY fun q=>ht y u rfl ((tCr_.zero _ _ q).trans hf0),agW]
   rw [e]
theorem XQ (all:List aj) (hrl : ∀ f∈all,f.row.length<=1000000) (hn:all.length<=300) (ha:UD all) :
  ∀ (n:Nat) (P t:List aj) (out:List cu),all=P++t->t.length<n->out.length<=P.length -> ∃ G,adJ t G/\ax (gH all) n (out,((P.length:Nat):Int))=some (.inl (out++G,((all.length:Nat):Int))):=by
 intro n
 induction n with
 | zero=>intro P t out _ h;omega
 | succ n ih =>
  intro P t out hall htn hout
  rw [ax]
  match t,hall,htn with
  | [],hall,_ =>
   refine ⟨[],⟨⟨List.Pairwise.nil,fun x=>?_⟩,fun g hg=>by cases hg⟩,?_⟩
   ·constructor
    ·intro h;cases h
    ·rintro ⟨f,hf,_⟩;cases hf
   ·have e:gH all (out,((P.length:Nat):Int))=some (.exit (out,((P.length:Nat):Int))):=by
     unfold gH
     dsimp only
     rw [show decide (((P.length:Nat):Int)<((all.length:Nat):Int))=false from agY (by rw [hall];simp),agW]
    rw [e,hall];simp
  | f0::t0,hall,htn =>
   obtain ⟨s,u,hsu,hs,hu⟩:=NF f0.row (f0::t0)
   have hs0:s[0]?=some f0:=by
    cases s with
    | nil=>exact absurd rfl (hu f0 t0 (by rw [hsu];rfl))
    | cons y s'=>rw [List.cons_append] at hsu;injection hsu with h1 _;rw [h1];rfl
   have hsl:0<s.length:=(agV.1 hs0).1
   have hall2:all=P++s++u:=by rw [hall,hsu,ahk]
   have hlen:=congrArg List.length hall2
   simp only [ag3] at hlen
   have hu2:u.length+s.length=(f0::t0).length:=by rw [hsu];simp;omega
   have hrun:=run_end P s u f0.row f0 rfl (by rw [<- hall2];exact hrl) (by rw [<- hall2];exact hn) hs hs0 hu fuel 0 (ahe _) (by unfold fuel;omega)
   rw [<- hall2,Nat.add_zero] at hrun
   have hr0:f0.row.length<=1000000:=hrl f0 (by rw [hall];simp)
   have hrs : ∀ f∈s,f.row.length<=1000000:=fun f hf=>hrl f (by rw [hall2];simp [hf])
   have hrows:=Qj s f0.row hr0 hs (by omega)
   have hcnt:=O8 s f0.row hr0 hrs (by omega)

   have hgt : ∀ f∈u,bS f0.row f.row<0:=by
    intro f hf
    have h1:UD u:=by rw [hall2] at ha;exact (List.pairwise_append.1 ha).2.1
    have h2 : ∀ a∈P++s, ∀ b∈u,bS a.row b.row<=0:=by rw [hall2] at ha;exact (List.pairwise_append.1 ha).2.2
    have hf0s:f0∈P++s:=List.mem_append_right _ (ag1 hs0)
    cases u with
    | nil=>cases hf
    | cons y v =>
     have hy0:=h2 f0 hf0s y (by simp)
     have hyn:bS f0.row y.row≠0:=fun q=>hu y v rfl (tCr_.zero _ _ q).symm
     have hlt:bS f0.row y.row<0:=by omega
     rcases aha.1 hf with rfl|hf
     ·exact hlt
     ·have hyf:=(ahP.1 h1).1 f hf
      rcases Int.lt_or_eq_of_le hyf with h|h
      ·exact tCr_.trans _ _ _ hlt h
      ·rw [<- tCr_.zero _ _ h];exact hlt
   have hne : ∀ f∈u,f.row≠f0.row:=fun f hf e=>by have:=hgt f hf;rw [e,tCr_.refl] at this;omega
   obtain ⟨o1,ho1⟩ : ∃ o1:List cu,o1=if s.any (fun f=>aL f.valid) then [⟨f0.row,AU (ones (eQ s f0.row))⟩] else []:=⟨_,rfl⟩
   have ho1l:o1.length<=1:=by rw [ho1];split<;>simp
   obtain ⟨G,hG,hL⟩:=ih (P++s) u (out++o1) hall2 (by simp at htn;simp at hu2;omega) (by simp;omega)
   have hi0:all[P.length]?=some f0:=by
    rw [hall,ag2 (ag' _),Nat.sub_self];rfl
   have e:gH all (out,((P.length:Nat):Int))=some (.next (out++o1,(((P++s).length:Nat):Int))):=by
    unfold gH
    dsimp only
    rw [aV hi0,agX,hrun,agU]
    show (lT all ((P.length:Nat):Int) (((P.length+s.length:Nat):Nat):Int)).bind _=_
    rw [show lT all ((P.length:Nat):Int) (((P.length+s.length:Nat):Nat):Int)=some s by rw [hall2];exact ZO P s u,agU,hrows,agU]
    by_cases hv:(s.any fun f=>aL f.valid)=true
    ·rw [if_pos hv] at ho1 ⊢
     rw [df (l:=[f0.row]) (fun r=>[(⟨r,AU (ones (eQ s f0.row))⟩:cu)]) 2932031007402 ?_ ?_ (by unfold fuel;simp) out (by simp;omega)]
     ·rw [agU,ho1,ag3];rfl
     ·intro o i x hx ho
      have hi:=(agV.1 hx).1
      have hi1:i=0:=by simpa using hi
      subst hi1
      simp at hx;subst hx
      unfold kr
      dsimp only
      rw [show decide (((0:Nat):Int)<((([f0.row]:List (List Val)).length:Nat):Int))=true from rfl,agX,show aH [f0.row] ((0:Nat):Int)=some f0.row from rfl,agU,hcnt,agU]
      rw [show decide (o.length+1<=2932031007402)=true from agZ (by simpa using ho),agX,wrapN (by omega)]
     ·intro o
      unfold kr
      dsimp only
      rw [lF_,agW]
    ·rw [if_neg hv] at ho1 ⊢
     rw [df (l:=([]:List (List Val))) (fun r=>([]:List cu)) 2932031007402 ?_ ?_ (by unfold fuel;simp) out (by simp;omega)]
     ·rw [agU,ho1,ag3];simp [ky]
     ·intro o i x hx;simp at hx
     ·intro o
      unfold kr
      dsimp only
      rw [lF_,agW]
   refine ⟨o1++G,⟨⟨?_,fun x=>?_⟩,fun g hg=>?_⟩,?_⟩
   ·rw [ag8]
    refine List.pairwise_append.2 ⟨by rw [ho1];split<;>simp,hG.1.1,fun a ha2 b hb=>?_⟩
    obtain ⟨f,hf,_,e⟩:=(hG.1.2 b).1 hb
    have:a=f0.row:=by rw [ho1] at ha2;split at ha2<;>simp at ha2;exact ha2
    rw [this, <- e];exact hgt f hf
   ·rw [ag8,ahl,hG.1.2 x,hsu]
    constructor
    ·rintro (h|⟨f,hf,h⟩)
     ·rw [ho1] at h
      split at h
      ·rename_i hv
       simp at h
       obtain ⟨f,hf,hv⟩:=List.any_eq_true.1 hv
       exact ⟨f,List.mem_append_left _ hf,hv,by rw [h];exact hs f hf⟩
      ·simp at h
     ·exact ⟨f,List.mem_append_right _ hf,h⟩
    ·rintro ⟨f,hf,hv,e⟩
     rcases ahl.1 hf with hf|hf
     ·left
      rw [ho1,if_pos (List.any_eq_true.2 ⟨f,hf,hv⟩)]
      simp [<- e,hs f hf]
     ·exact .inr ⟨f,hf,hv,e⟩
   ·rw [hsu,TR]
    rcases ahl.1 hg with hg|hg
    ·have hgr:g=⟨f0.row,AU (ones (eQ s f0.row))⟩:=by rw [ho1] at hg;split at hg<;>simp at hg;exact hg
     rw [hgr]
     rw [Gw hne,ahs]
    ·have hgm:g.row∈G.map (·.row):=List.mem_map_of_mem hg
     obtain ⟨f,hf,_,e⟩:=(hG.1.2 g.row).1 hgm
     rw [Gw (l:=s) (fun f' hf' q=>hne f hf (by rw [e, <- q];exact (hs f' hf'))),ag0]
     exact hG.2 g hg
   ·rw [e]
    dsimp only
    rw [hL,ahk]
theorem XV (l all:List aj) (h:all.Perm l) (r:List Val):bR (eQ all r)=bR (bD l r):=by
 refine TC ?_
 have e1:(eQ all r).filter (fun p=>St.aO (toP p))=bD all r:=by
  unfold eQ bD
  rw [List.filter_map,List.filter_filter]
  congr 1
 have e2:(bD l r).filter (fun p=>St.aO (toP p))=bD l r:=List.filter_eq_self.2 fun p hp=>Gg l r p hp
 rw [e1,e2]
 unfold bD
 exact (h.filter _).map _
theorem Sq (l:List aj) (hn:l.length<=300) (hr : ∀ f∈l,f.row.length<=1000000) : ∃ R,fV l R/\kU l=some (fO l R)/\(fO l R).length<=108180000:=by
 obtain ⟨all,e1,a1,p1⟩:=RJ 639 l (by omega) (by omega) hr
 have hal:all.length=l.length:=p1.length_eq
 obtain ⟨G,hG,hL⟩:=XQ all (fun f hf=>hr f (p1.mem_iff.1 hf)) (by omega) a1 fuel [] all [] rfl (by unfold fuel;omega) (ag' _)
 have hgr:uX l=some G:=by
  unfold uX
  rw [e1,agU]
  have:ax (gH all) fuel ([],(0:Int))=some (.inl ([]++G,((all.length:Nat):Int))):=hL
  rw [this,agU,ag0];rfl
 have hR:fV l (G.map (·.row)):=by
  refine ⟨hG.1.1,fun x=>(hG.1.2 x).trans ?_⟩
  constructor
  ·rintro ⟨f,hf,h⟩;exact ⟨f,p1.mem_iff.1 hf,h⟩
  ·rintro ⟨f,hf,h⟩;exact ⟨f,p1.mem_iff.2 hf,h⟩
 refine ⟨G.map (·.row),hR,?_⟩
 have hpl : ∀ r,(eQ all r).length<=300:=fun r=>by
  have:(eQ all r).length<=all.length:=by unfold eQ;rw [ag7];exact List.length_filter_le _ _
  omega
 have hlev : ∀ g∈G,Rl g.steps=some (bR (bD l g.row)):=by
  intro g hg
  rw [hG.2 g hg, <- XV l all p1]
  unfold Rl
  rw [if_pos (C_ _ (by have:=hpl g.row;omega))]
  rfl
 have hll : ∀ g∈G,(bR (bD l g.row)).length<=360600:=fun g hg=>by
  have h1:=MR (bD l g.row)
  have h2:=NJ l g.row
  omega
 have hGl:G.length<=300:=by

  have h1 : ∀ (R:List (List Val)) (L:List (List Val)),R.Nodup->(∀ x∈R,x∈L)->R.length<=L.length:=by
   intro R
   induction R with
   | nil=>intro L _ _;simp
   | cons x R ih =>
    intro L hnd hm
    have hx:=hm x (by simp)
    have hnd2:=List.nodup_cons.1 hnd
    have h2:=ih (L.erase x) hnd2.2 fun y hy=>by
     have hne:y≠x:=fun e=>hnd2.1 (e▸hy)
     exact (List.mem_erase_of_ne hne).2 (hm y (ahh _ hy))
    have h3:=List.length_erase_of_mem hx
    have h4:0<L.length:=List.length_pos_of_mem hx
    rw [ahf];omega
  have h2:(G.map (·.row)).Nodup:=by
   refine List.Pairwise.imp ?_ hR.1
   intro a b h e
   rw [e,tCr_.refl] at h;omega
  have h3:=h1 (G.map (·.row)) (l.map (·.row)) h2 fun x hx=>by
   obtain ⟨f,hf,_,e⟩:=(hR.2 x).1 hx
   exact aht.2 ⟨f,hf,e⟩
  simp at h3
  omega
 have hfl : ∀ L:List cu,(∀ g∈L,(bR (bD l g.row)).length<=360600)->(L.flatMap fun g=>(bR (bD l g.row)).map fun p=>(⟨g.row,p⟩:aj)).length<=L.length*360600:=by
  intro L
  induction L with
  | nil=>intro _;simp
  | cons g L ih =>
   intro hL
   have h1:=ih fun x hx=>hL x (ahh _ hx)
   have h2:=hL g (by simp)
   rw [ahw,ag3,ag7,ahf];omega
 have htot:=Nat.le_trans (hfl G hll) (ahv 360600 hGl)
 refine ⟨?_,by unfold fO;rw [List.flatMap_map];exact htot⟩
 unfold kU
 rw [hgr,agU]
 rw [df (l:=G) (fun g=>(bR (bD l g.row)).map fun p=>(⟨g.row,p⟩:aj)) 3518437208883 ?_ ?_ (by unfold fuel;omega) [] (by simp only [aho];omega)]
 ·rw [agU,ag0]
  show some _=some _
  unfold fO
  rw [List.flatMap_map]
 ·intro s i x hx hs
  have hi:=(agV.1 hx).1
  have hxm:=ag1 hx
  have h2:=hll x hxm
  unfold Dt
  dsimp only
  rw [aV hx,agX,gn_ hx]
  simp only [agU]
  rw [hlev x hxm,agU,Jq x.row _ (by omega),agU]
  rw [show decide (s.length+((bR (bD l x.row)).map fun p=>(⟨x.row,p⟩:aj)).length<=3518437208883)=true from agZ hs,agX,wrapN (by omega)]
 ·intro s
  unfold Dt
  dsimp only
  rw [lF_,agW]
theorem zacb (p:aI) (t:Int):zaaz p t=some (aL p&&(decide (p.lo<=t)&&decide (t<p.hi))):=by
 unfold zaaz
 rw [eH,agU]
 cases aL p<;>cases decide (p.lo<=t)<;>rfl
theorem Qs (l:List aj) (hn:l.length<=1000000000) (hr : ∀ f∈l,f.row.length<=1000000):kM l l=some true:=by
 unfold kM
 rw [show decide (((l.length:Nat):Int)≠((l.length:Nat):Int))=false from agY fun h=>h rfl,agW]
 have loop : ∀ (n i:Nat),i<=l.length->l.length-i<n->ax (l7 l l) n (i:Int)=some (.inl ((l.length:Nat):Int)):=by
  intro n
  induction n with
  | zero=>intro i _ h;omega
  | succ n ih =>
   intro i hi h
   rw [ax]
   by_cases hlt:i<l.length
   ·obtain ⟨x,hx⟩:=gol_ hlt
    have hxr:=hr x (ag1 hx)
    have e:l7 l l (i:Int)=some (.next (((i+1:Nat):Nat):Int)):=by
     unfold l7
     dsimp only
     rw [aV hx,agX,gn_ hx]
     simp only [agU]
     rw [show dL [.c (.int .i64 x.valid.lo), .c (.int .i64 x.valid.hi)] [.c (.int .i64 x.valid.lo), .c (.int .i64 x.valid.hi)]=true by simp [dL],oz x.row x.row (by omega) (by omega)]
     simp only [Bool.not_true,agW,agU]
     rw [tCr_.refl,show decide ((0:Int)≠0)=false from rfl,agW,wrapN (by omega)]
    rw [e]
    exact ih (i+1) (by omega) (by omega)
   ·have:i=l.length:=by omega
    subst this
    have e:l7 l l ((l.length:Nat):Int)=some (.exit ((l.length:Nat):Int)):=by
     unfold l7
     dsimp only
     rw [lF_,agW]
    rw [e]
 have:=loop fuel 0 (ahe _) (by unfold fuel;omega)
 rw [show ax (l7 l l) fuel (0:Int)=_ from this]
 rfl
def mX:Val:=⟨0,0,ByteArray.empty⟩
theorem oK:oM=some mX:=rfl
theorem dn:fQ=some mX:=rfl
def vF (v:Val):Bool:=(eP v).getD false
theorem lK (v:Val):eP v=some (vF v):=by
 obtain ⟨r,hr⟩:=II v
 unfold vF
 rw [hr];rfl
theorem Ct (v:Val):wm v=some (vF v):=(show wm v=eP v from rfl).trans (lK v)
def PZ (v:Val):Val:=bif vF v then v else mX
theorem Kb (v:Val):zO v=some (PZ v):=by
 unfold zO PZ
 rw [Ct,agU,oK]
 cases vF v<;>rfl
theorem Jt (v:Val):wy v=some (PZ v):=by
 unfold wy PZ
 rw [lK,agU,dn]
 cases vF v<;>rfl
theorem pG:vF mX=true:=by
 have e:(ByteArray.empty.toList==(⟨#[]⟩:ByteArray).toList)=true:=by rw [ByteArray.toList_eq,ByteArray.toList_eq];rfl
 unfold vF eP mX
 dsimp only
 rw [e];rfl
theorem ug (v:Val):vF (PZ v)=true:=by
 unfold PZ
 cases h:vF v with
 | true=>exact h
 | false=>exact pG
def pM (b:Bool):Val:=bif b then ⟨3,1,ByteArray.empty⟩ else ⟨3,0,ByteArray.empty⟩
theorem Nu (b:Bool):yg b=some (pM b):=by cases b<;>rfl
theorem Ac (b:Bool):wB b=some (pM b):=by cases b<;>rfl
theorem Hr (b:Bool):vF (pM b)=true:=by
 have e:(ByteArray.empty.toList==(⟨#[]⟩:ByteArray).toList)=true:=by rw [ByteArray.toList_eq,ByteArray.toList_eq];rfl
 unfold vF eP pM
 cases b<;>(dsimp only [cond_true,cond_false];rw [e];rfl)
theorem oG (n:Int):sW n=some (PZ ⟨1,n,ByteArray.empty⟩):=by unfold sW;rw [Kb];rfl
theorem mP (n:Int):sF n=some (PZ ⟨1,n,ByteArray.empty⟩):=by unfold sF;rw [Jt];rfl
theorem Ws (s:ByteArray):Fe s=some (PZ ⟨2,0,s⟩):=by unfold Fe;rw [Kb];rfl
theorem XX (s:ByteArray):KW s=some (PZ ⟨2,0,s⟩):=by unfold KW;rw [Jt];rfl
def T3 (t:Int):Prop:=t=0\/t=1\/t=2
theorem Bq (v:Val) : ∃ t,lh v=some t/\jy v=some t/\T3 t:=by
 have e:lh v=jy v:=rfl
 have h : ∃ t,jy v=some t/\T3 t:=by
  unfold jy
  rw [Ac,Ac]
  simp only [agU]
  cases dL [.c (.int .i64 v.kind), .c (.int .i64 v.int), .c (.str v.text)] [.c (.int .i64 (pM true).kind), .c (.int .i64 (pM true).int), .c (.str (pM true).text)] with
  | true=>exact ⟨2,rfl, .inr (.inr rfl)⟩
  | false =>
   rw [agW]
   cases dL [.c (.int .i64 v.kind), .c (.int .i64 v.int), .c (.str v.text)] [.c (.int .i64 (pM false).kind), .c (.int .i64 (pM false).int), .c (.str (pM false).text)] with
   | true=>exact ⟨0,rfl, .inl rfl⟩
   | false=>exact ⟨1,rfl, .inr (.inl rfl)⟩
 obtain ⟨t,h1,h2⟩:=h
 exact ⟨t,e.trans h1,h1,h2⟩
def tF_ (v:Val):Int:=(jy v).getD 1
theorem lH (v:Val):lh v=some (tF_ v):=by obtain ⟨t,h1,h2,_⟩:=Bq v;unfold tF_;rw [h1,h2];rfl
theorem qy (v:Val):jy v=some (tF_ v):=by obtain ⟨t,h1,h2,_⟩:=Bq v;unfold tF_;rw [h2];rfl
theorem kD (v:Val):T3 (tF_ v):=by obtain ⟨t,h1,h2,h3⟩:=Bq v;unfold tF_;rw [h2];exact h3
def IZ (a:Int):Int:=if a=2 then 0 else if a=0 then 2 else 1
def Le (a b:Int):Int:=if a=0\/b=0 then 0 else if a=2/\b=2 then 2 else 1
def or3 (a b:Int):Int:=if a=2\/b=2 then 2 else if a=0/\b=0 then 0 else 1
theorem wE (a:Int):T3 (IZ a):=by unfold IZ;split;exact .inl rfl;split;exact .inr (.inr rfl);exact .inr (.inl rfl)
theorem OT (a b:Int):T3 (Le a b):=by unfold Le;split;exact .inl rfl;split;exact .inr (.inr rfl);exact .inr (.inl rfl)
theorem UG (a b:Int):T3 (or3 a b):=by unfold or3;split;exact .inr (.inr rfl);split;exact .inl rfl;exact .inr (.inl rfl)
theorem zL {a:Int} (h:T3 a):Lp a=some (IZ a):=by rcases h with rfl|rfl|rfl<;>rfl
theorem DK {a:Int} (h:T3 a):Ku a=some (IZ a):=by rcases h with rfl|rfl|rfl<;>rfl
theorem Kt {a:Int} (h:T3 a):tF a=some a:=by rcases h with rfl|rfl|rfl<;>rfl
theorem Ms {a b:Int} (ha:T3 a) (hb:T3 b):Fp [a,b]=some (Mg (Mg 2 a) b):=by
 unfold Fp
 rw [di (l:=[a,b]) (mk:=fun t i=>(t,i)) (f:=fun t x=>(tF x).bind fun r=>some (.inl (Mg t r))) ?_ ?_ (by unfold fuel;simp) 2]
 ·simp only [dF,Kt ha,Kt hb,agU]
  rfl
 ·intro s i x hx
  have hi:=(agV.1 hx).1
  unfold zH
  dsimp only
  rw [aV hx,agX,gn_ hx,wrapN (by simp at hi;omega)]
  simp only [agU]
  cases tF x<;>rfl
 ·intro s
  unfold zH
  dsimp only
  rw [lF_,agW]
theorem abx {a b:Int} (ha:T3 a) (hb:T3 b):UM a b=some (Le a b):=by
 unfold UM
 rw [Ms ha hb]
 rcases ha with rfl|rfl|rfl<;>rcases hb with rfl|rfl|rfl<;>rfl
theorem Zx {a b:Int} (ha:T3 a) (hb:T3 b):IV a b=some (Le a b):=by
 rcases ha with rfl|rfl|rfl<;>rcases hb with rfl|rfl|rfl<;>rfl
theorem adI {a b:Int} (ha:T3 a) (hb:T3 b):KF a b=some (or3 a b):=by
 unfold KF
 rw [zL ha,zL hb]
 simp only [agU]
 rw [Ms (wE a) (wE b)]
 rcases ha with rfl|rfl|rfl<;>rcases hb with rfl|rfl|rfl<;>rfl
theorem abI {a b:Int} (ha:T3 a) (hb:T3 b):TU a b=some (or3 a b):=by
 rcases ha with rfl|rfl|rfl<;>rcases hb with rfl|rfl|rfl<;>rfl
def CW (t:Int):Val:=if t=2 then pM true else if t=0 then pM false else mX
theorem mq {t:Int} (h:T3 t):Ee t=some (CW t):=by rcases h with rfl|rfl|rfl<;>rfl
theorem si {t:Int} (h:T3 t):GD t=some (CW t):=by rcases h with rfl|rfl|rfl<;>rfl
theorem w_ (t:Int):vF (CW t)=true:=by
 unfold CW
 split
 ·exact Hr _
 ·split
  ·exact Hr _
  ·exact pG
def Ue (a b:Val) (is:Bool):Int:=if a.kind=0\/a.kind≠b.kind then 1 else bif is then 2 else 0
theorem Vd (a b:Val) (is:Bool):T3 (Ue a b is):=by
 unfold Ue
 split
 ·exact .inr (.inl rfl)
 ·cases is
  ·exact .inl rfl
  ·exact .inr (.inr rfl)
theorem BP (a b:Val) (is:Bool):wU a b is=some (Ue a b is):=by
 unfold wU Ue
 by_cases h1:a.kind=0
 ·simp [h1]
 ·by_cases h2:a.kind=b.kind
  ·have hb : ¬ b.kind=0:=by rw [<- h2];exact h1
   simp only [h2,agY hb,agW,ne_eq,not_true_eq_false,decide_false,or_false]
   rw [if_neg hb]
   cases is<;>rfl
  ·simp only [agY h1,agW,ne_eq,h2,not_false_eq_true,decide_true,agX,or_true,if_true]
theorem JV (a b:Val) (is:Bool):Ak a b is=some (Ue a b is):=(show Ak a b is=wU a b is from rfl).trans (BP a b is)
def eqF (a b:Val):Int:=Ue a b (decide (zA a b=0))
def ltF (a b:Val):Int:=Ue a b (decide (zA a b<0))
theorem acW (a b:Val):Xf a b=some (eqF a b):=by unfold Xf;rw [DZ,agU,BP];rfl
theorem abK (a b:Val):X9 a b=some (eqF a b):=by unfold X9;rw [KL,agU,JV];rfl
theorem Xr (a b:Val):yh a b=some (ltF a b):=by unfold yh;rw [DZ,agU,BP];rfl
theorem Xo (a b:Val):zq a b=some (ltF a b):=by unfold zq;rw [KL,agU,JV];rfl
def wH (op:Int) (a b:Val):Int:=if op=7 then eqF a b else if op=8 then IZ (eqF a b) else if op=9 then ltF a b else if op=11 then ltF b a else if op=10 then IZ (ltF b a) else IZ (ltF a b)
theorem Uk (a b:Val):T3 (eqF a b):=Vd _ _ _
theorem EG (a b:Val):T3 (ltF a b):=Vd _ _ _
theorem lc (op:Int) (a b:Val):T3 (wH op a b):=by
 unfold wH
 split
 ·exact Uk _ _
 split
 ·exact wE _
 split
 ·exact EG _ _
 split
 ·exact EG _ _
 split
 ·exact wE _
 ·exact wE _
theorem iw (op:Int) (a b:Val):oo op a b=some (wH op a b):=by
 unfold oo wH
 simp only [acW,Xr,agU,zL (Uk a b),zL (EG a b),zL (EG b a)]
 by_cases h1:op=7
 ·simp [h1]
 by_cases h2:op=8
 ·simp [h2]
 by_cases h3:op=9
 ·simp [h3]
 by_cases h4:op=11
 ·simp [h4]
 by_cases h5:op=10
 ·simp [h5]
 simp [h1,h2,h3,h4,h5]
theorem kG (op:Int) (a b:Val):jl op a b=some (wH op a b):=by
 unfold jl wH
 simp only [abK,Xo,agU,DK (Uk a b),DK (EG a b),DK (EG b a)]
 by_cases h1:op=7
 ·simp [h1]
 by_cases h2:op=8
 ·simp [h2]
 by_cases h3:op=9
 ·simp [h3]
 by_cases h4:op=11
 ·simp [h4]
 by_cases h5:op=10
 ·simp [h5]
 simp [h1,h2,h3,h4,h5]
def g_ (p q:aI):Int :=
 if p.hi<q.lo then 0 else if p.hi=q.lo then 1 else if q.hi<p.lo then 12 else if q.hi=p.lo then 11 else if p.lo=q.lo/\p.hi=q.hi then 6
 else if p.lo=q.lo then (if p.hi<q.hi then 3 else 9) else if p.hi=q.hi then (if q.lo<p.lo then 5 else 7)
 else if p.lo<q.lo/\q.hi<p.hi then 8 else if q.lo<p.lo/\p.hi<q.hi then 4 else if p.lo<q.lo then 2 else 10
theorem dV (p q:aI):dL [.c (.int .i64 p.lo), .c (.int .i64 p.hi)] [.c (.int .i64 q.lo), .c (.int .i64 q.hi)]=decide (p.lo=q.lo/\p.hi=q.hi):=by
 simp [dL]
theorem acU (p q:aI):W9 p q=some (if aL p=true/\aL q=true then (g_ p q,true) else (0,false)):=by
 unfold W9
 rw [Bj,Bj]
 simp only [agU]
 cases hp:aL p with
 | false=>simp
 | true =>
  cases hq:aL q with
  | false=>simp
  | true =>
   simp only [Bool.not_true,agW,and_self,if_true,dV]
   unfold g_
   by_cases h1:p.hi<q.lo
   ·simp only [Bool.cond_decide,eq_true h1,if_true,if_false,and_true,true_and,and_false,false_and,and_self]
   by_cases h2:p.hi=q.lo
   ·simp only [Bool.cond_decide,eq_true h2,eq_false h1,if_true,if_false,and_true,true_and,and_false,false_and,and_self]
   by_cases h3:q.hi<p.lo
   ·simp only [Bool.cond_decide,eq_true h3,eq_false h1,eq_false h2,if_true,if_false,and_true,true_and,and_false,false_and,and_self]
   by_cases h4:q.hi=p.lo
   ·simp only [Bool.cond_decide,eq_true h4,eq_false h1,eq_false h2,eq_false h3,if_true,if_false,and_true,true_and,and_false,false_and,and_self]
   by_cases h5:p.lo=q.lo
   ·by_cases h6:p.hi=q.hi
    ·simp only [Bool.cond_decide,eq_true h5,eq_true h6,eq_false h1,eq_false h2,eq_false h3,eq_false h4,if_true,if_false,and_true,true_and,and_false,false_and,and_self]
    ·by_cases h7:p.hi<q.hi
     ·simp only [Bool.cond_decide,eq_true h5,eq_true h7,eq_false h1,eq_false h2,eq_false h3,eq_false h4,eq_false h6,if_true,if_false,and_true,true_and,and_false,false_and,and_self]
     ·simp only [Bool.cond_decide,eq_true h5,eq_false h1,eq_false h2,eq_false h3,eq_false h4,eq_false h6,eq_false h7,if_true,if_false,and_true,true_and,and_false,false_and,and_self]
   ·by_cases h6:p.hi=q.hi
    ·by_cases h7:q.lo<p.lo
     ·simp only [Bool.cond_decide,eq_true h6,eq_true h7,eq_false h1,eq_false h2,eq_false h3,eq_false h4,eq_false h5,if_true,if_false,and_true,true_and,and_false,false_and,and_self]
     ·simp only [Bool.cond_decide,eq_true h6,eq_false h1,eq_false h2,eq_false h3,eq_false h4,eq_false h5,eq_false h7,if_true,if_false,and_true,true_and,and_false,false_and,and_self]
    ·by_cases h7:p.lo<q.lo
     ·by_cases h8:q.hi<p.hi
      ·simp only [Bool.cond_decide,eq_true h7,eq_true h8,eq_false h1,eq_false h2,eq_false h3,eq_false h4,eq_false h5,eq_false h6,if_true,if_false,and_true,true_and,and_false,false_and,and_self]
      ·by_cases h9:q.lo<p.lo
       ·omega
       ·simp only [Bool.cond_decide,eq_true h7,eq_false h1,eq_false h2,eq_false h3,eq_false h4,eq_false h5,eq_false h6,eq_false h8,eq_false h9,if_true,if_false,and_true,true_and,and_false,false_and,and_self]
     ·by_cases h8:q.lo<p.lo
      ·by_cases h9:p.hi<q.hi
       ·simp only [Bool.cond_decide,eq_true h8,eq_true h9,eq_false h1,eq_false h2,eq_false h3,eq_false h4,eq_false h5,eq_false h6,eq_false h7,if_true,if_false,and_true,true_and,and_false,false_and,and_self]
       ·simp only [Bool.cond_decide,eq_true h8,eq_false h1,eq_false h2,eq_false h3,eq_false h4,eq_false h5,eq_false h6,eq_false h7,eq_false h9,if_true,if_false,and_true,true_and,and_false,false_and,and_self]
      ·omega
theorem qW {p:aI} (h:aL p=true):0<=p.lo/\p.lo<p.hi/\p.hi<=1099511627776:=by
 unfold aL at h
 simp only [ahb,decide_eq_true_eq] at h
 omega
theorem abe {p q:aI} (hp:0<=p.lo/\p.lo<p.hi) (hq:0<=q.lo/\q.lo<q.hi):g_ p q=0↔p.hi<q.lo:=by
 unfold g_
 repeat' split
 all_goals (constructor<;>intro h<;>omega)
theorem adD (p q:aI):kR 0 p q=some (decide (p.hi<q.lo)):=by
 unfold kR
 simp only [Int.reduceEq,decide_false,decide_true,agX,agW,dV]<;>rfl
theorem Zy {p q:aI} (hp:0<=p.lo/\p.lo<p.hi) (hq:0<=q.lo/\q.lo<q.hi):g_ p q=1↔p.hi=q.lo:=by
 unfold g_
 repeat' split
 all_goals (constructor<;>intro h<;>omega)
theorem adi (p q:aI):kR 1 p q=some (decide (p.hi=q.lo)):=by
 unfold kR
 simp only [Int.reduceEq,decide_false,decide_true,agX,agW,dV]<;>rfl
theorem aap {p q:aI} (hp:0<=p.lo/\p.lo<p.hi) (hq:0<=q.lo/\q.lo<q.hi):g_ p q=2↔p.lo<q.lo/\q.lo<p.hi/\p.hi<q.hi:=by
 unfold g_
 repeat' split
 all_goals (constructor<;>intro h<;>omega)
theorem ada (p q:aI):kR 2 p q=some (decide (p.lo<q.lo/\q.lo<p.hi/\p.hi<q.hi)):=by
 unfold kR
 simp only [Int.reduceEq,decide_false,decide_true,agX,agW,dV]
 by_cases h0:p.lo<q.lo<;>by_cases h1:q.lo<p.hi<;>simp [h0,h1]
theorem YP {p q:aI} (hp:0<=p.lo/\p.lo<p.hi) (hq:0<=q.lo/\q.lo<q.hi):g_ p q=3↔p.lo=q.lo/\p.hi<q.hi:=by
 unfold g_
 repeat' split
 all_goals (constructor<;>intro h<;>omega)
theorem adP (p q:aI):kR 3 p q=some (decide (p.lo=q.lo/\p.hi<q.hi)):=by
 unfold kR
 simp only [Int.reduceEq,decide_false,decide_true,agX,agW,dV]
 by_cases h0:p.lo=q.lo<;>simp [h0]
theorem ZJ {p q:aI} (hp:0<=p.lo/\p.lo<p.hi) (hq:0<=q.lo/\q.lo<q.hi):g_ p q=4↔q.lo<p.lo/\p.hi<q.hi:=by
 unfold g_
 repeat' split
 all_goals (constructor<;>intro h<;>omega)
theorem aei (p q:aI):kR 4 p q=some (decide (q.lo<p.lo/\p.hi<q.hi)):=by
 unfold kR
 simp only [Int.reduceEq,decide_false,decide_true,agX,agW,dV]
 by_cases h0:q.lo<p.lo<;>simp [h0]
theorem ZP {p q:aI} (hp:0<=p.lo/\p.lo<p.hi) (hq:0<=q.lo/\q.lo<q.hi):g_ p q=5↔p.hi=q.hi/\q.lo<p.lo:=by
 unfold g_
 repeat' split
 all_goals (constructor<;>intro h<;>omega)
theorem ady (p q:aI):kR 5 p q=some (decide (p.hi=q.hi/\q.lo<p.lo)):=by
 unfold kR
 simp only [Int.reduceEq,decide_false,decide_true,agX,agW,dV]
 by_cases h0:p.hi=q.hi<;>simp [h0]
theorem ZC {p q:aI} (hp:0<=p.lo/\p.lo<p.hi) (hq:0<=q.lo/\q.lo<q.hi):g_ p q=6↔p.lo=q.lo/\p.hi=q.hi:=by
 unfold g_
 repeat' split
 all_goals (constructor<;>intro h<;>omega)
theorem ad2 (p q:aI):kR 6 p q=some (decide (p.lo=q.lo/\p.hi=q.hi)):=by
 unfold kR
 simp only [Int.reduceEq,decide_false,decide_true,agX,agW,dV]<;>rfl
theorem ZE {p q:aI} (hp:0<=p.lo/\p.lo<p.hi) (hq:0<=q.lo/\q.lo<q.hi):g_ p q=7↔p.hi=q.hi/\p.lo<q.lo:=by
 unfold g_
 repeat' split
 all_goals (constructor<;>intro h<;>omega)
theorem adG (p q:aI):kR 7 p q=some (decide (p.hi=q.hi/\p.lo<q.lo)):=by
 unfold kR
 simp only [Int.reduceEq,decide_false,decide_true,agX,agW,dV]
 by_cases h0:p.hi=q.hi<;>simp [h0]
theorem aaE {p q:aI} (hp:0<=p.lo/\p.lo<p.hi) (hq:0<=q.lo/\q.lo<q.hi):g_ p q=8↔p.lo<q.lo/\q.hi<p.hi:=by
 unfold g_
 repeat' split
 all_goals (constructor<;>intro h<;>omega)
theorem adE (p q:aI):kR 8 p q=some (decide (p.lo<q.lo/\q.hi<p.hi)):=by
 unfold kR
 simp only [Int.reduceEq,decide_false,decide_true,agX,agW,dV]
 by_cases h0:p.lo<q.lo<;>simp [h0]
theorem aa7 {p q:aI} (hp:0<=p.lo/\p.lo<p.hi) (hq:0<=q.lo/\q.lo<q.hi):g_ p q=9↔p.lo=q.lo/\q.hi<p.hi:=by
 unfold g_
 repeat' split
 all_goals (constructor<;>intro h<;>omega)
theorem adg (p q:aI):kR 9 p q=some (decide (p.lo=q.lo/\q.hi<p.hi)):=by
 unfold kR
 simp only [Int.reduceEq,decide_false,decide_true,agX,agW,dV]
 by_cases h0:p.lo=q.lo<;>simp [h0]
theorem Wn {p q:aI} (hp:0<=p.lo/\p.lo<p.hi) (hq:0<=q.lo/\q.lo<q.hi):g_ p q=10↔q.lo<p.lo/\p.lo<q.hi/\q.hi<p.hi:=by
 unfold g_
 repeat' split
 all_goals (constructor<;>intro h<;>omega)
theorem abP (p q:aI):kR 10 p q=some (decide (q.lo<p.lo/\p.lo<q.hi/\q.hi<p.hi)):=by
 unfold kR
 simp only [Int.reduceEq,decide_false,decide_true,agX,agW,dV]
 by_cases h0:q.lo<p.lo<;>by_cases h1:p.lo<q.hi<;>simp [h0,h1]
theorem Xz {p q:aI} (hp:0<=p.lo/\p.lo<p.hi) (hq:0<=q.lo/\q.lo<q.hi):g_ p q=11↔q.hi=p.lo:=by
 unfold g_
 repeat' split
 all_goals (constructor<;>intro h<;>omega)
theorem abB (p q:aI):kR 11 p q=some (decide (q.hi=p.lo)):=by
 unfold kR
 simp only [Int.reduceEq,decide_false,decide_true,agX,agW,dV]<;>rfl
theorem Xk {p q:aI} (hp:0<=p.lo/\p.lo<p.hi) (hq:0<=q.lo/\q.lo<q.hi):g_ p q=12↔q.hi<p.lo:=by
 unfold g_
 repeat' split
 all_goals (constructor<;>intro h<;>omega)
theorem acv (p q:aI):kR 12 p q=some (decide (q.hi<p.lo)):=by
 unfold kR
 simp only [Int.reduceEq,decide_false,decide_true,agX,agW,dV]<;>rfl
theorem BJ (p q:aI):0<=g_ p q/\g_ p q<13:=by
 unfold g_
 repeat' split
 all_goals omega
theorem ZG {rel:Int} (h : ¬ (0<=rel/\rel<13)) (p q:aI):kR rel p q=some false:=by
 unfold kR
 rw [agY (show ¬ rel=0 by omega),agW]
 rw [agY (show ¬ rel=1 by omega),agW]
 rw [agY (show ¬ rel=2 by omega),agW]
 rw [agY (show ¬ rel=3 by omega),agW]
 rw [agY (show ¬ rel=4 by omega),agW]
 rw [agY (show ¬ rel=5 by omega),agW]
 rw [agY (show ¬ rel=6 by omega),agW]
 rw [agY (show ¬ rel=7 by omega),agW]
 rw [agY (show ¬ rel=8 by omega),agW]
 rw [agY (show ¬ rel=9 by omega),agW]
 rw [agY (show ¬ rel=10 by omega),agW]
 rw [agY (show ¬ rel=11 by omega),agW]
 rw [agY (show ¬ rel=12 by omega),agW]
theorem aaT {p q:aI} (hp:aL p=true) (hq:aL q=true) (rel:Int):kR rel p q=some (decide (g_ p q=rel)):=by
 obtain ⟨p1,p2,p3⟩:=qW hp
 obtain ⟨q1,q2,q3⟩:=qW hq
 by_cases hr:0<=rel/\rel<13
 ·have:rel=0\/rel=1\/rel=2\/rel=3\/rel=4\/rel=5\/rel=6\/rel=7\/rel=8\/rel=9\/rel=10\/rel=11\/rel=12:=by omega
  rcases this with rfl|rfl|rfl|rfl|rfl|rfl|rfl|rfl|rfl|rfl|rfl|rfl|rfl
  ·rw [adD];congr 1;rw [decide_eq_decide,abe ⟨p1,p2⟩ ⟨q1,q2⟩]
  ·rw [adi];congr 1;rw [decide_eq_decide,Zy ⟨p1,p2⟩ ⟨q1,q2⟩]
  ·rw [ada];congr 1;rw [decide_eq_decide,aap ⟨p1,p2⟩ ⟨q1,q2⟩]
  ·rw [adP];congr 1;rw [decide_eq_decide,YP ⟨p1,p2⟩ ⟨q1,q2⟩]
  ·rw [aei];congr 1;rw [decide_eq_decide,ZJ ⟨p1,p2⟩ ⟨q1,q2⟩]
  ·rw [ady];congr 1;rw [decide_eq_decide,ZP ⟨p1,p2⟩ ⟨q1,q2⟩]
  ·rw [ad2];congr 1;rw [decide_eq_decide,ZC ⟨p1,p2⟩ ⟨q1,q2⟩]
  ·rw [adG];congr 1;rw [decide_eq_decide,ZE ⟨p1,p2⟩ ⟨q1,q2⟩]
  ·rw [adE];congr 1;rw [decide_eq_decide,aaE ⟨p1,p2⟩ ⟨q1,q2⟩]
  ·rw [adg];congr 1;rw [decide_eq_decide,aa7 ⟨p1,p2⟩ ⟨q1,q2⟩]
  ·rw [abP];congr 1;rw [decide_eq_decide,Wn ⟨p1,p2⟩ ⟨q1,q2⟩]
  ·rw [abB];congr 1;rw [decide_eq_decide,Xz ⟨p1,p2⟩ ⟨q1,q2⟩]
  ·rw [acv];congr 1;rw [decide_eq_decide,Xk ⟨p1,p2⟩ ⟨q1,q2⟩]
 ·rw [ZG hr,agY]
  have:=BJ p q
  omega
theorem Jk (rel:Int) (p q:aI):Ai rel p q=some (aL p&&(aL q&&decide (g_ p q=rel))):=by
 unfold Ai
 rw [eH,eH]
 simp only [agU]
 cases hp:aL p with
 | false=>rfl
 | true =>
  cases hq:aL q with
  | false=>rfl
  | true=>rw [aaT hp hq];rfl
theorem Rs (p q:aI) (h:aL p=true/\aL q=true) : ∀ (n i:Nat),(i:Int)<=g_ p q->13-i<n->ax (uK p q) n (i:Int)=some (.inr (g_ p q,true))
 | 0,i,_,h2=>by omega
 | n+1,i,h1,h2=>by
  have hr:=BJ p q
  rw [ax]
  unfold uK
  dsimp only
  rw [agZ (show (i:Int)<13 by omega),agX,Jk,agU,h.1,h.2,wrapN (by omega)]
  by_cases e:g_ p q=i
  ·rw [e];simp
  ·simp only [ahr,agY e,agW]
   exact Rs p q h n (i+1) (by omega) (by omega)
theorem QQ (p q:aI) (h : ¬ (aL p=true/\aL q=true)) : ∀ (n i:Nat),i<=13->13-i<n->ax (uK p q) n (i:Int)=some (.inl ((13:Nat):Int))
 | 0,i,_,h2=>by omega
 | n+1,i,h1,h2=>by
  rw [ax]
  unfold uK
  dsimp only
  by_cases hi:i=13
  ·subst hi;rfl
  ·rw [agZ (show (i:Int)<13 by omega),agX,Jk,agU,wrapN (by omega)]
   have:(aL p&&(aL q&&decide (g_ p q=i)))=false:=by
    cases hp:aL p<;>cases hq:aL q<;>simp_all
   rw [this,agW]
   exact QQ p q h n (i+1) (by omega) (by omega)
theorem Ze (p q:aI):Q0 p q=some (if aL p=true/\aL q=true then (g_ p q,true) else (0,false)):=by
 unfold Q0
 by_cases h:aL p=true/\aL q=true
 ·have:=Rs p q h fuel 0 (BJ p q).1 (by unfold fuel;omega)
  rw [show ((0:Nat):Int)=0 from rfl] at this
  rw [this,if_pos h];rfl
 ·have:=QQ p q h fuel 0 (by omega) (by unfold fuel;omega)
  rw [show ((0:Nat):Int)=0 from rfl] at this
  rw [this,if_neg h];rfl
def Al (row:List Val) (i:Int):Val:=if 0<=i then (row[i.toNat]?).getD mX else mX
theorem Y6 (row:List Val) (i:Int):gAt row i=some (Al row i):=by
 unfold gAt Al
 by_cases h1:i<0
 ·rw [agZ h1,agX,if_neg (by omega)];rfl
 ·rw [agY h1,agW,if_pos (by omega)]
  by_cases h2:((row.length:Nat):Int)<=i
  ·rw [agZ h2,agX,ahH (by omega)];rfl
  ·rw [agY h2,agW]
   obtain ⟨x,hx⟩:=gol_ (show i.toNat<row.length by omega)
   unfold aH
   rw [if_pos (by omega),hx];rfl
theorem abF (row:List Val) (i:Int):Ti row i=some (Al row i):=(show Ti row i=gAt row i from rfl).trans (Y6 row i)
theorem Xx (row:List Val) (i:Int):Q3 row [i]=some [Al row i]:=by
 unfold Q3
 simp only [ahf,aho]
 rw [show decide ((0:Int)<=(((0+1:Nat)):Int))=true from rfl,show decide ((32:Int)*(((0+1:Nat)):Int)<=281474976710656)=true from rfl,show decide ((((0+1:Nat)):Int)<=9223372036854775807)=true from rfl]
 simp only [agX]
 rw [di (l:=[i]) (mk:=fun t i=>(t,i)) (f:=push (Al row) 4398046511104) ?_ ?_ (by unfold fuel;simp) []]
 ·rw [Mr _ _ _ _ (by simp)];rfl
 ·intro s j x hx
  have hi:=(agV.1 hx).1
  unfold Dq push
  dsimp only
  rw [aV hx,agX,gn_ hx]
  simp only [agU]
  rw [Y6,agU,wrapN (by simp at hi;omega)]
  cases decide (s.length+1<=4398046511104)<;>rfl
 ·intro s
  unfold Dq
  dsimp only
  rw [lF_,agW]
theorem TQ (row:List Val) (i:Int):Dk row i=some (PZ (Al row i)):=by
 unfold Dk
 rw [Xx,agU,show aH [Al row i] (0:Int)=some (Al row i) from rfl,agU,Ct,agU,oK]
 unfold PZ
 cases vF (Al row i)<;>rfl
theorem Xp (e:Ex) (row:List Val) (h:e.op=2):Gt e row=some (PZ (Al row e.int)):=by
 unfold Gt
 rw [h,show decide ((2:Int)=2)=true from rfl,agX,abF,agU,lK,agU,dn]
 unfold PZ
 cases vF (Al row e.int)<;>rfl
theorem Sg (e:Ex) (row:List Val) (h:e.op=1) (hv:vF e.v=true):Gt e row=some e.v:=by
 unfold Gt
 rw [h,show decide ((1:Int)=2)=false from rfl,agW,lK,agU,hv]
 rfl
def gM (l:List Val) (k:Int):Bool:=l.all fun v=>decide (v.kind=k)
theorem qb (l:List Val) (k:Int) (hl:l.length<=1000000):RF l k=some (gM l k):=by
 unfold RF
 rw [di (l:=l) (mk:=fun (_:Unit) i=>i) (f:=fun _ v=>some (if v.kind≠k then .inr false else .inl ())) ?_ ?_ (by unfold fuel;omega) ()]
 ·have : ∀ l:List Val,dF (ρ:=Bool) (fun (_:Unit) (v:Val)=>some (if v.kind≠k then .inr false else .inl ())) () l=some (if gM l k=true then .inl () else .inr false):=by
   intro l
   induction l with
   | nil=>rfl
   | cons v l ih =>
    rw [dF]
    by_cases h:v.kind=k
    ·simp only [ne_eq,h,not_true_eq_false,if_false]
     rw [ih];simp [gM,h]
    ·simp [gM,h]
  rw [this]
  cases gM l k<;>rfl
 ·intro s i x hx
  have hi:=(agV.1 hx).1
  unfold Hy
  dsimp only
  rw [aV hx,agX,gn_ hx,wrapN (by omega)]
  simp only [agU]
  by_cases h:x.kind=k
  ·simp [h,uw]
  ·simp [h,uw]
 ·intro s
  unfold Hy
  dsimp only
  rw [lF_,agW]
def DY (f:Int->Int->Int) (l:List Val) (t:Int):Int:=l.foldl (fun t v=>f t (tF_ v)) t
theorem G8 {f:Int->Int->Int} (hf : ∀ a b,T3 (f a b)) : ∀ (l:List Val) (t:Int),T3 t->T3 (DY f l t)
 | [],t,h=>h
 | v::l,t,h=>G8 hf l _ (hf _ _)
theorem D9 {f:Int->Int->Int} (hf : ∀ a b,T3 (f a b)) {g:Int->Int->Option Int} (hg : ∀ a b,T3 a->T3 b->g a b=some (f a b)) : ∀ (l:List Val) (t:Int),T3 t->dF (ρ:=Val) (fun t v=>(g t (tF_ v)).bind fun r=>some (.inl r)) t l=some (.inl (DY f l t))
 | [],t,h=>rfl
 | v::l,t,h=>by
  rw [dF,hg _ _ h (kD v)]
  exact D9 hf hg l _ (hf _ _)
theorem Ub (x:Val) (l:List Val) (hl:l.length<=1000000):rJ 5 (x::l)=some (CW (DY Le l (tF_ x))):=by
 unfold rJ
 rw [show aH (x::l) (0:Int)=some x from rfl,agU,lH,agU,show decide ((5:Int)=4)=false from rfl,agW,show decide ((5:Int)=5)=true from rfl,agX]
 rw [show lT (x::l) (1:Int) (((x::l).length:Nat):Int)=some l by unfold lT;rw [if_pos (by simp only [ahf];omega)];simp,agU]
 rw [di (l:=l) (mk:=fun t i=>(t,i)) (f:=fun t v=>(UM t (tF_ v)).bind fun r=>some (.inl r)) ?_ ?_ (by unfold fuel;omega) (tF_ x)]
 ·rw [D9 OT (fun a b ha hb=>abx ha hb) l _ (kD x)]
  show (Ee (DY Le l (tF_ x))).bind _=_
  rw [mq (G8 OT l _ (kD x))];rfl
 ·intro s i v hv
  have hi:=(agV.1 hv).1
  unfold Ad
  dsimp only
  rw [aV hv,agX,gn_ hv,wrapN (by omega)]
  simp only [agU]
  rw [lH,agU]
  cases UM s (tF_ v)<;>rfl
 ·intro s
  unfold Ad
  dsimp only
  rw [lF_,agW]
theorem Wu (x:Val) (l:List Val) (hl:l.length<=1000000):rJ 6 (x::l)=some (CW (DY or3 l (tF_ x))):=by
 unfold rJ
 rw [show aH (x::l) (0:Int)=some x from rfl,agU,lH,agU,show decide ((6:Int)=4)=false from rfl,agW,show decide ((6:Int)=5)=false from rfl,agW]
 rw [show lT (x::l) (1:Int) (((x::l).length:Nat):Int)=some l by unfold lT;rw [if_pos (by simp only [ahf];omega)];simp,agU]
 rw [di (l:=l) (mk:=fun t i=>(t,i)) (f:=fun t v=>(KF t (tF_ v)).bind fun r=>some (.inl r)) ?_ ?_ (by unfold fuel;omega) (tF_ x)]
 ·rw [D9 UG (fun a b ha hb=>adI ha hb) l _ (kD x)]
  show (Ee (DY or3 l (tF_ x))).bind _=_
  rw [mq (G8 UG l _ (kD x))];rfl
 ·intro s i v hv
  have hi:=(agV.1 hv).1
  unfold Ag
  dsimp only
  rw [aV hv,agX,gn_ hv,wrapN (by omega)]
  simp only [agU]
  rw [lH,agU]
  cases KF s (tF_ v)<;>rfl
 ·intro s
  unfold Ag
  dsimp only
  rw [lF_,agW]
theorem TL (x:Val):rJ 4 [x]=some (CW (IZ (tF_ x))):=by
 unfold rJ
 rw [show aH [x] (0:Int)=some x from rfl,agU,lH,agU,show decide ((4:Int)=4)=true from rfl,agX,zL (kD x),agU,mq (wE _)];rfl
theorem Kc (op:Int) (f:Int->Int->Int) (hf : ∀ a b,T3 (f a b)) (hop : ∀ a b,T3 a->T3 b->(bif decide (op=5) then IV a b else TU a b)=some (f a b)) (x:Val) (l:List Val) (hl:l.length<=1000000):Ah op (x::l)=some (CW (DY f l (tF_ x))):=by
 unfold Ah
 rw [show aH (x::l) (0:Int)=some x from rfl,agU,qy,agU]
 have:=NW (l:=x::l) (body:=qC op (x::l)) (ρ:=Val) (mk:=fun t i=>(t,i)) (f:=fun t v=>(bif decide (op=5) then IV t (tF_ v) else TU t (tF_ v)).bind fun r=>some (.inl r)) (by
  intro s i v hv
  have hi:=(agV.1 hv).1
  unfold qC
  dsimp only
  rw [aV hv,agX,gn_ hv,wrapN (by simp at hi;omega)]
  simp only [agU,qy]
  cases decide (op=5)
  ·simp only [agW];cases TU s (tF_ v)<;>rfl
  ·simp only [agX];cases IV s (tF_ v)<;>rfl) (by
  intro s
  unfold qC
  dsimp only
  rw [lF_,agW]) fuel 1 (tF_ x) (by simp) (by unfold fuel;simp;omega)
 rw [show ((1:Nat):Int)=1 from rfl] at this
 rw [this]
 have h2:=D9 hf hop l (tF_ x) (kD x)
 rw [show (x::l).drop 1=l from rfl,h2]
 show (GD (DY f l (tF_ x))).bind _=_
 rw [si (G8 hf l _ (kD x))];rfl
theorem zT (s:ByteArray):(s.toList==(⟨#[]⟩:ByteArray).toList)=true↔s=ByteArray.empty:=by
 rw [beq_iff_eq,ByteArray.toList_eq,ByteArray.toList_eq]
 constructor
 ·intro h
  have:s.data.toList=[]:=h
  obtain ⟨d⟩:=s
  obtain ⟨l⟩:=d
  simp at this
  subst this;rfl
 ·rintro rfl;rfl
structure VV (v:Val):Prop where
 kind:0<=v.kind/\v.kind<=3
 int : -1125899906842624<=v.int/\v.int<=1125899906842624
 text:v.text.size<=200
theorem xL {v:Val} (h:vF v=true):VV v:=by
 have hx:=lK v
 rw [h] at hx
 unfold eP at hx
 have e0 : ∀ s:ByteArray,s=ByteArray.empty->s.size<=200:=by rintro s rfl;decide
 by_cases k0:v.kind=0
 ·rw [agZ k0,agX] at hx
  by_cases i0:v.int=0
  ·rw [agZ i0,agX] at hx
   have:=(zT _).1 (ahq hx)
   exact ⟨by omega,by omega,e0 _ this⟩
  ·rw [agY i0,agW] at hx;cases hx
 rw [agY k0,agW] at hx
 by_cases k1:v.kind=1
 ·rw [agZ k1,agX] at hx
  by_cases t0:(v.text.toList==(⟨#[]⟩:ByteArray).toList)=true
  ·rw [t0,agX] at hx
   by_cases i1:(-1125899906842624:Int)<=v.int
   ·rw [agZ i1,agX] at hx
    have:=ahm (ahq hx)
    exact ⟨by omega,⟨i1,this⟩,e0 _ ((zT _).1 t0)⟩
   ·rw [agY i1,agW] at hx;cases hx
  ·rw [Bool.not_eq_true] at t0
   rw [t0,agW] at hx;cases hx
 rw [agY k1,agW] at hx
 by_cases k2:v.kind=2
 ·rw [agZ k2,agX] at hx
  by_cases i0:v.int=0
  ·rw [agZ i0,agX] at hx
   by_cases t2:((v.text.size:Nat):Int)<=200
   ·exact ⟨by omega,by omega,by omega⟩
   ·rw [agY t2,agW] at hx;cases hx
  ·rw [agY i0,agW] at hx;cases hx
 rw [agY k2,agW] at hx
 by_cases k3:v.kind=3
 ·rw [agZ k3,agX] at hx
  by_cases t0:(v.text.toList==(⟨#[]⟩:ByteArray).toList)=true
  ·rw [t0,agX] at hx
   by_cases i0:v.int=0
   ·exact ⟨by omega,by omega,e0 _ ((zT _).1 t0)⟩
   ·rw [agY i0,agW] at hx
    have:=ahm (ahq hx)
    exact ⟨by omega,by omega,e0 _ ((zT _).1 t0)⟩
  ·rw [Bool.not_eq_true] at t0
   rw [t0,agW] at hx;cases hx
 rw [agY k3,agW] at hx
 cases hx
theorem VV.vok {v:Val} (h:VV v):VOK v:=⟨⟨by have:=h.kind;omega,by have:=h.kind;omega⟩,⟨by have:=h.int;omega,by have:=h.int;omega⟩,by have:=h.text;omega⟩
abbrev afM (n:Int):Val:=PZ ⟨1,n,ByteArray.empty⟩
abbrev afg (s:ByteArray):Val:=PZ ⟨2,0,s⟩
def ab9 (op a b:Int):Val:=(eD op a b).getD mX
theorem aed {a:Int} (h : -1125899906842624<=a/\a<=1125899906842624):CY a (IntKind.i64.wrap (0-a))=(a.natAbs:Int):=by
 rw [fK (by omega)]
 unfold CY
 split<;>omega
theorem LU (a b:Int):yO a b=eD 15 a b:=by
 unfold yO eD
 rw [show decide ((15:Int)=13)=false from rfl,show decide ((15:Int)=14)=false from rfl,show decide ((15:Int)=15)=true from rfl]
 simp only [agX,agW]
 cases decide (a≠0) with
 | false=>simp only [agW];rw [oG,mP]
 | true =>
  simp only [agX]
  unfold Ya
  simp only [agU]
  rw [oG,mP]
  rfl
theorem N0 {op a b:Int} (ha : -1125899906842624<=a/\a<=1125899906842624) : ∃ v,eD op a b=some v/\vF v=true:=by
 unfold eD
 simp only [mP,agU,dn]
 cases decide (op=13) with
 | true=>exact ⟨_,rfl,ug _⟩
 | false =>
 cases decide (op=14) with
 | true=>exact ⟨_,rfl,ug _⟩
 | false =>
 cases decide (op=15) with
 | true =>
  simp only [agX,agW]
  by_cases h:a=0
  ·subst h;exact ⟨_,rfl,ug _⟩
  ·rw [agZ (show a≠0 from h),agX]
   unfold Ya
   simp only [agU]
   rw [aed ha,agZ (show ((a.natAbs:Nat):Int)≠0 by omega),agX]
   generalize decide (IntKind.i64.wrap ((1125899906842624:Int).tdiv ((a.natAbs:Nat):Int))<CY b (IntKind.i64.wrap (0-b)))=c
   cases c with
   | true=>exact ⟨_,rfl,pG⟩
   | false=>exact ⟨_,rfl,ug _⟩
 | false =>
  simp only [agW]
  by_cases h:b=0
  ·rw [agZ h];exact ⟨_,rfl,pG⟩
  ·rw [agY h,agZ (show b≠0 from h)]
   simp only [agX,agW]
   cases decide (op=16) with
   | true=>exact ⟨_,rfl,ug _⟩
   | false=>exact ⟨_,rfl,ug _⟩
theorem iI {op a b:Int} (ha : -1125899906842624<=a/\a<=1125899906842624):eD op a b=some (ab9 op a b)/\vF (ab9 op a b)=true:=by
 obtain ⟨v,h1,h2⟩:=N0 (op:=op) (b:=b) ha
 unfold ab9
 rw [h1];exact ⟨rfl,h2⟩
theorem KE (l:List Val) (hl:l.length<=1000000):ax (uG l) fuel (0:Int)=some (bif gM l 1 then .inl ((l.length:Nat):Int) else .inr mX):=by
 rw [di (l:=l) (mk:=fun (_:Unit) i=>i) (f:=fun _ v=>some (if v.kind≠1 then .inr mX else .inl ())) ?_ ?_ (by unfold fuel;omega) ()]
 ·have : ∀ l:List Val,dF (ρ:=Val) (fun (_:Unit) (v:Val)=>some (if v.kind≠1 then .inr mX else .inl ())) () l=some (if gM l 1=true then .inl () else .inr mX):=by
   intro l
   induction l with
   | nil=>rfl
   | cons v l ih =>
    rw [dF]
    by_cases h:v.kind=1
    ·simp only [ne_eq,h,not_true_eq_false,if_false]
     rw [ih];simp [gM,h]
    ·simp [gM,h]
  rw [this]
  cases gM l 1<;>rfl
 ·intro s i x hx
  have hi:=(agV.1 hx).1
  unfold uG
  dsimp only
  rw [aV hx,agX,gn_ hx,wrapN (by omega)]
  simp only [agU]
  by_cases h:x.kind=1
  ·simp [h,uw]
  ·simp [h,uw,oK]
 ·intro s
  unfold uG
  dsimp only
  rw [lF_,agW]
def ig (op:Int) (a b:Val):Val:=bif gM [a,b] 1 then ab9 op a.int b.int else mX
theorem rF {op:Int} {a b:Val} (ha:VV a) (h:op=13\/op=14\/op=15\/op=16\/op=17):pu op [a,b]=some (ig op a b):=by
 unfold pu ig
 rw [KE _ (by simp)]
 cases gM [a,b] 1 with
 | false=>rfl
 | true =>
  simp only [agX,agU]
  have hc:=(iI (op:=op) (b:=b.int) ha.int).1
  rw [<- hc]
  unfold qi
  dsimp only
  rw [show aH [a,b] (0:Int)=some a from rfl,agU,show aH [a,b] (IntKind.i64.wrap ((([a,b].length:Nat):Int)-1))=some b from rfl,agU]
  rcases h with rfl|rfl|rfl|rfl|rfl
  ·unfold eD
   rw [show decide ((13:Int)=13)=true from rfl,agX,agX,mP,oG]
  ·unfold eD
   rw [show decide ((14:Int)=13)=false from rfl,show decide ((14:Int)=14)=true from rfl]
   simp only [agX,agW]
   rw [mP,oG]
  ·rw [show decide ((15:Int)=13)=false from rfl,show decide ((15:Int)=14)=false from rfl,show decide ((15:Int)=15)=true from rfl]
   simp only [agX,agW]
   rw [LU]
   cases eD 15 a.int b.int<;>rfl
  ·unfold eD
   rw [show decide ((16:Int)=13)=false from rfl,show decide ((16:Int)=14)=false from rfl,show decide ((16:Int)=15)=false from rfl,show decide ((16:Int)=18)=false from rfl,show decide ((16:Int)=16)=true from rfl]
   simp only [agX,agW,oG,mP,oK,dn]
  ·unfold eD
   rw [show decide ((17:Int)=13)=false from rfl,show decide ((17:Int)=14)=false from rfl,show decide ((17:Int)=15)=false from rfl,show decide ((17:Int)=18)=false from rfl,show decide ((17:Int)=16)=false from rfl]
   simp only [agX,agW,oG,mP,oK,dn]
def Q6 (a:Val):Val:=bif gM [a] 1 then afM (IntKind.i64.wrap (0-a.int)) else mX
theorem SS (a:Val):pu 18 [a]=some (Q6 a):=by
 unfold pu Q6
 rw [KE _ (by simp)]
 cases gM [a] 1 with
 | false=>rfl
 | true =>
  simp only [agX,agU]
  show (sW _).bind _=_
  rw [oG];rfl
def O5 (a b:Val):Val:=bif gM [a,b] 2 then afg (a.text++b.text) else mX
def O9 (a:Val):Val:=bif gM [a] 2 then afM ((a.text.size:Nat):Int) else mX
theorem SX {a b:Val} (ha:VV a) (hb:VV b):yH 19 [a,b]=some (O5 a b):=by
 unfold yH O5
 rw [qb _ _ (by simp),agU]
 cases gM [a,b] 2 with
 | false=>rfl
 | true =>
  have h1:=ha.text
  have h2:=hb.text
  rw [Bool.not_true,agW,agX,show decide ((19:Int)=19)=true from rfl,agX,show aH [a,b] (0:Int)=some a from rfl,agU,show aH [a,b] (1:Int)=some b from rfl,agU]
  rw [agZ (show a.text.size+b.text.size<=9223372036854775807 by omega),agX,XX];rfl
theorem T9 (a:Val):yH 20 [a]=some (O9 a):=by
 unfold yH O9
 rw [qb _ _ (by simp),agU]
 cases gM [a] 2 with
 | false=>rfl
 | true =>
  rw [Bool.not_true,agW,agX,show decide ((20:Int)=19)=false from rfl,agW,show aH [a] (0:Int)=some a from rfl,agU,mP];rfl
def sQ (p:Int × ByteArray) (x:Val):Option (Sum (Int × ByteArray) Val):=bif decide (x.kind≠2) then some (.inr mX) else bif decide (p.2.size+x.text.size<=9223372036854775807) then some (.inl (IntKind.i64.wrap (p.1+((x.text.size:Nat):Int)),p.2++x.text)) else none
theorem KI (op:Int) (l:List Val) (hl:l.length<=1000000):zx op l=(Jl (fun (p:Int × ByteArray) i=>(p.1,p.2,i)) l.length (dF sQ (0,⟨#[]⟩) l)).bind (qg op):=by
 unfold zx
 rw [di (l:=l) (mk:=fun (p:Int × ByteArray) i=>(p.1,p.2,i)) (f:=sQ) ?_ ?_ (by unfold fuel;omega) ((0:Int),(⟨#[]⟩:ByteArray))]
 ·intro s i x hx
  have hi:=(agV.1 hx).1
  unfold zR sQ
  dsimp only
  rw [aV hx,agX,gn_ hx,wrapN (by omega)]
  simp only [agU]
  cases decide (x.kind≠2) with
  | true=>rfl
  | false =>
   simp only [agW]
   cases decide (s.2.size+x.text.size<=9223372036854775807)<;>rfl
 ·intro s
  unfold zR
  dsimp only
  rw [lF_,agW]
theorem ab5 (s:ByteArray):(⟨#[]⟩:ByteArray)++s=s:=by
 apply ByteArray.ext
 simp
theorem Tj {a b:Val} (ha:VV a) (hb:VV b):zx 19 [a,b]=some (O5 a b):=by
 have h1:=ha.text
 have h2:=hb.text
 have h0:(⟨#[]⟩:ByteArray).size=0:=rfl
 rw [KI _ _ (by simp)]
 unfold O5
 by_cases ka:a.kind=2
 ·by_cases kb:b.kind=2
  ·have e:gM [a,b] 2=true:=by simp [gM,ka,kb]
   rw [e]
   simp only [dF,sQ]
   rw [agY (show ¬ a.kind≠2 by omega),agW,agZ (show (⟨#[]⟩:ByteArray).size+a.text.size<=9223372036854775807 by rw [h0];omega),agX]
   simp only []
   rw [agY (show ¬ b.kind≠2 by omega),agW,ab5,agZ (show a.text.size+b.text.size<=9223372036854775807 by omega),agX]
   show (Fe (a.text++b.text)).bind _=_
   rw [Ws];rfl
  ·have e:gM [a,b] 2=false:=by simp [gM,kb]
   rw [e]
   simp only [dF,sQ]
   rw [agY (show ¬ a.kind≠2 by omega),agW,agZ (show (⟨#[]⟩:ByteArray).size+a.text.size<=9223372036854775807 by rw [h0];omega),agX]
   simp only []
   rw [agZ (show b.kind≠2 from kb),agX];rfl
 ·have e:gM [a,b] 2=false:=by simp [gM,ka]
  rw [e]
  simp only [dF,sQ]
  rw [agZ (show a.kind≠2 from ka),agX];rfl
theorem Tq {a:Val} (ha:VV a):zx 20 [a]=some (O9 a):=by
 have h1:=ha.text
 have h0:(⟨#[]⟩:ByteArray).size=0:=rfl
 rw [KI _ _ (by simp)]
 unfold O9
 by_cases ka:a.kind=2
 ·have e:gM [a] 2=true:=by simp [gM,ka]
  rw [e]
  simp only [dF,sQ]
  rw [agY (show ¬ a.kind≠2 by omega),agW,agZ (show (⟨#[]⟩:ByteArray).size+a.text.size<=9223372036854775807 by rw [h0];omega),agX]
  show (sW (IntKind.i64.wrap (0+((a.text.size:Nat):Int)))).bind _=_
  rw [oG,Int.zero_add,fK (by omega)];rfl
 ·have e:gM [a] 2=false:=by simp [gM,ka]
  rw [e]
  simp only [dF,sQ]
  rw [agZ (show a.kind≠2 from ka),agX];rfl
def Oy (rel:Int) (a b c d:Val):Val :=
 bif gM [a,b,c,d] 1 then (if aL ⟨a.int,b.int⟩=true/\aL ⟨c.int,d.int⟩=true then pM (decide (g_ ⟨a.int,b.int⟩ ⟨c.int,d.int⟩=rel)) else mX) else mX
theorem OL (rel:Int) (a b c d:Val):uL rel [a,b,c,d]=some (Oy rel a b c d):=by
 unfold uL Oy
 rw [qb _ _ (by simp),agU]
 cases gM [a,b,c,d] 1 with
 | false=>exact congrArg (fun o:Option Val=>o.bind fun r=>some r) dn
 | true =>
  rw [Bool.not_true,agW,agX,show aH [a,b,c,d] (0:Int)=some a from rfl,show aH [a,b,c,d] (1:Int)=some b from rfl,show aH [a,b,c,d] (2:Int)=some c from rfl,show aH [a,b,c,d] (3:Int)=some d from rfl]
  rw [agU,agU,agU,agU,Ze,agU]
  generalize g_ ⟨a.int,b.int⟩ ⟨c.int,d.int⟩=x
  generalize aL ⟨a.int,b.int⟩=y
  generalize aL ⟨c.int,d.int⟩=z
  cases y<;>cases z
  ·exact congrArg (fun o:Option Val=>o.bind fun r=>some r) dn
  ·exact congrArg (fun o:Option Val=>o.bind fun r=>some r) dn
  ·exact congrArg (fun o:Option Val=>o.bind fun r=>some r) dn
  ·exact congrArg (fun o:Option Val=>o.bind fun r=>some r) (Ac _)
theorem Ra (rel:Int) (a b c d:Val):y_ rel [a,b,c,d]=some (Oy rel a b c d):=by
 unfold y_ Oy DT
 rw [show aH [a,b,c,d] (0:Int)=some a from rfl,show aH [a,b,c,d] (1:Int)=some b from rfl,show aH [a,b,c,d] (2:Int)=some c from rfl,show aH [a,b,c,d] (3:Int)=some d from rfl]
 simp only [agU]
 rw [acU,agU,oK]
 have e:gM [a,b,c,d] 1=((decide (a.kind=1)&&decide (b.kind=1))&&(decide (c.kind=1)&&decide (d.kind=1))):=by
  simp [gM,Bool.and_assoc]
 rw [e]
 generalize (decide (a.kind=1)&&decide (b.kind=1))=u
 generalize (decide (c.kind=1)&&decide (d.kind=1))=v
 generalize g_ ⟨a.int,b.int⟩ ⟨c.int,d.int⟩=x
 generalize aL ⟨a.int,b.int⟩=y
 generalize aL ⟨c.int,d.int⟩=z
 cases u
 ·rfl
 cases v
 ·rfl
 cases y<;>cases z
 ·rfl
 ·rfl
 ·rfl
 ·exact congrArg (fun o:Option Val=>o.bind fun r=>some r) (Nu _)
theorem eF {n k:Int} : decide (n=k)=(decide (k<=n)&&decide (n<=k)):=by
 rw [Bool.eq_iff_iff];simp only [ahb,decide_eq_true_eq];omega
theorem OQ {n k:Int} (h:n<=1099511627776):decide (k<=n)=(decide (k<=n)&&decide (n<=1099511627776)):=by
 rw [agZ h,Bool.and_true]
def nY (op:Int):Int × Int:=(yK op).getD (-1,0)
theorem zf (op n:Int) (h:n<=1099511627776):yK op=some (nY op)/\wP op n=some (decide (0<=(nY op).1)&&(decide ((nY op).1<=n)&&decide (n<=(nY op).2)),decide (0<=(nY op).1))/\(0<=(nY op).1->op=1\/op=2\/op=4\/op=5\/op=6\/op=7\/op=8\/op=9\/op=10\/op=11\/op=12\/op=13\/op=14\/op=15\/op=16\/op=17\/op=18\/op=19\/op=20\/op=21\/op=22\/op=23\/op=24) /\ -1<=(nY op).1:=by
 by_cases h1:op=1
 ·subst h1
  refine ⟨rfl,?_,fun _=>by simp,by decide⟩
  show some (decide (n=0),true)=some (true&&(decide ((0:Int)<=n)&&decide (n<=0)),true)
  rw [ahr, <- eF]
 by_cases h2:op=2
 ·subst h2
  refine ⟨rfl,?_,fun _=>by simp,by decide⟩
  show some (decide (n=0),true)=some (true&&(decide ((0:Int)<=n)&&decide (n<=0)),true)
  rw [ahr, <- eF]
 by_cases h4:op=4
 ·subst h4
  refine ⟨rfl,?_,fun _=>by simp,by decide⟩
  show some (decide (n=1),true)=some (true&&(decide ((1:Int)<=n)&&decide (n<=1)),true)
  rw [ahr, <- eF]
 by_cases h5:op=5
 ·subst h5
  refine ⟨rfl,?_,fun _=>by simp,by decide⟩
  show some (decide ((2:Int)<=n),true)=some (true&&(decide ((2:Int)<=n)&&decide (n<=1099511627776)),true)
  rw [ahr, <- OQ h]
 by_cases h6:op=6
 ·subst h6
  refine ⟨rfl,?_,fun _=>by simp,by decide⟩
  show some (decide ((2:Int)<=n),true)=some (true&&(decide ((2:Int)<=n)&&decide (n<=1099511627776)),true)
  rw [ahr, <- OQ h]
 by_cases h7:op=7
 ·subst h7
  refine ⟨rfl,?_,fun _=>by simp,by decide⟩
  show some (decide (n=2),true)=some (true&&(decide ((2:Int)<=n)&&decide (n<=2)),true)
  rw [ahr, <- eF]
 by_cases h8:op=8
 ·subst h8
  refine ⟨rfl,?_,fun _=>by simp,by decide⟩
  show some (decide (n=2),true)=some (true&&(decide ((2:Int)<=n)&&decide (n<=2)),true)
  rw [ahr, <- eF]
 by_cases h9:op=9
 ·subst h9
  refine ⟨rfl,?_,fun _=>by simp,by decide⟩
  show some (decide (n=2),true)=some (true&&(decide ((2:Int)<=n)&&decide (n<=2)),true)
  rw [ahr, <- eF]
 by_cases h10:op=10
 ·subst h10
  refine ⟨rfl,?_,fun _=>by simp,by decide⟩
  show some (decide (n=2),true)=some (true&&(decide ((2:Int)<=n)&&decide (n<=2)),true)
  rw [ahr, <- eF]
 by_cases h11:op=11
 ·subst h11
  refine ⟨rfl,?_,fun _=>by simp,by decide⟩
  show some (decide (n=2),true)=some (true&&(decide ((2:Int)<=n)&&decide (n<=2)),true)
  rw [ahr, <- eF]
 by_cases h12:op=12
 ·subst h12
  refine ⟨rfl,?_,fun _=>by simp,by decide⟩
  show some (decide (n=2),true)=some (true&&(decide ((2:Int)<=n)&&decide (n<=2)),true)
  rw [ahr, <- eF]
 by_cases h13:op=13
 ·subst h13
  refine ⟨rfl,?_,fun _=>by simp,by decide⟩
  show some (decide (n=2),true)=some (true&&(decide ((2:Int)<=n)&&decide (n<=2)),true)
  rw [ahr, <- eF]
 by_cases h14:op=14
 ·subst h14
  refine ⟨rfl,?_,fun _=>by simp,by decide⟩
  show some (decide (n=2),true)=some (true&&(decide ((2:Int)<=n)&&decide (n<=2)),true)
  rw [ahr, <- eF]
 by_cases h15:op=15
 ·subst h15
  refine ⟨rfl,?_,fun _=>by simp,by decide⟩
  show some (decide (n=2),true)=some (true&&(decide ((2:Int)<=n)&&decide (n<=2)),true)
  rw [ahr, <- eF]
 by_cases h16:op=16
 ·subst h16
  refine ⟨rfl,?_,fun _=>by simp,by decide⟩
  show some (decide (n=2),true)=some (true&&(decide ((2:Int)<=n)&&decide (n<=2)),true)
  rw [ahr, <- eF]
 by_cases h17:op=17
 ·subst h17
  refine ⟨rfl,?_,fun _=>by simp,by decide⟩
  show some (decide (n=2),true)=some (true&&(decide ((2:Int)<=n)&&decide (n<=2)),true)
  rw [ahr, <- eF]
 by_cases h18:op=18
 ·subst h18
  refine ⟨rfl,?_,fun _=>by simp,by decide⟩
  show some (decide (n=1),true)=some (true&&(decide ((1:Int)<=n)&&decide (n<=1)),true)
  rw [ahr, <- eF]
 by_cases h19:op=19
 ·subst h19
  refine ⟨rfl,?_,fun _=>by simp,by decide⟩
  show some (decide (n=2),true)=some (true&&(decide ((2:Int)<=n)&&decide (n<=2)),true)
  rw [ahr, <- eF]
 by_cases h20:op=20
 ·subst h20
  refine ⟨rfl,?_,fun _=>by simp,by decide⟩
  show some (decide (n=1),true)=some (true&&(decide ((1:Int)<=n)&&decide (n<=1)),true)
  rw [ahr, <- eF]
 by_cases h21:op=21
 ·subst h21
  refine ⟨rfl,?_,fun _=>by simp,by decide⟩
  show some (decide (n=1),true)=some (true&&(decide ((1:Int)<=n)&&decide (n<=1)),true)
  rw [ahr, <- eF]
 by_cases h22:op=22
 ·subst h22
  refine ⟨rfl,?_,fun _=>by simp,by decide⟩
  show some (decide (n=3),true)=some (true&&(decide ((3:Int)<=n)&&decide (n<=3)),true)
  rw [ahr, <- eF]
 by_cases h23:op=23
 ·subst h23
  refine ⟨rfl,?_,fun _=>by simp,by decide⟩
  show some (decide ((1:Int)<=n),true)=some (true&&(decide ((1:Int)<=n)&&decide (n<=1099511627776)),true)
  rw [ahr, <- OQ h]
 by_cases h24:op=24
 ·subst h24
  refine ⟨rfl,?_,fun _=>by simp,by decide⟩
  show some (decide (n=4),true)=some (true&&(decide ((4:Int)<=n)&&decide (n<=4)),true)
  rw [ahr, <- eF]
 have e1:yK op=some (-1,0):=by
  unfold yK;simp only [agY h1,agY h2,agY h4,agY h5,agY h6,agY h7,agY h8,agY h9,agY h10,agY h11,agY h12,agY h13,agY h14,agY h15,agY h16,agY h17,agY h18,agY h19,agY h20,agY h21,agY h22,agY h23,agY h24,agW]
 have e2:wP op n=some (false,false):=by
  unfold wP;simp only [agY h1,agY h2,agY h4,agY h5,agY h6,agY h7,agY h8,agY h9,agY h10,agY h11,agY h12,agY h13,agY h14,agY h15,agY h16,agY h17,agY h18,agY h19,agY h20,agY h21,agY h22,agY h23,agY h24,agW]
 have e3:nY op=(-1,0):=by unfold nY;rw [e1];rfl
 rw [e1,e2,e3]
 exact ⟨rfl,rfl,fun h=>absurd h (by decide),by decide⟩
theorem ar1:nY 1=(0,0):=rfl
theorem ar2:nY 2=(0,0):=rfl
theorem ar4:nY 4=(1,1):=rfl
theorem ar5:nY 5=(2,1099511627776):=rfl
theorem ar6:nY 6=(2,1099511627776):=rfl
theorem ar7:nY 7=(2,2):=rfl
theorem ar8:nY 8=(2,2):=rfl
theorem ar9:nY 9=(2,2):=rfl
theorem agu:nY 10=(2,2):=rfl
theorem aga:nY 11=(2,2):=rfl
theorem agH:nY 12=(2,2):=rfl
theorem afd:nY 13=(2,2):=rfl
theorem afr:nY 14=(2,2):=rfl
theorem ae4:nY 15=(2,2):=rfl
theorem ae9:nY 16=(2,2):=rfl
theorem aeS:nY 17=(2,2):=rfl
theorem agI:nY 18=(1,1):=rfl
theorem agc:nY 19=(2,2):=rfl
theorem agz:nY 20=(1,1):=rfl
theorem agk:nY 21=(1,1):=rfl
theorem aek:nY 22=(3,3):=rfl
theorem agB:nY 23=(1,1099511627776):=rfl
theorem agJ:nY 24=(4,4):=rfl
def xI (e:Ex):Bool:=(mG e).getD false
def Z0 (v:Val):Bool:=dL [.c (.int .i64 v.kind), .c (.int .i64 v.int), .c (.str v.text)] [.c (.int .i64 (0:Int)), .c (.int .i64 (0:Int)), .c (.str ByteArray.empty)]
def DR (e:Ex):Bool:=(e.nm.toList==(⟨#[]⟩:ByteArray).toList)&&(if e.op=1 then decide (e.int=0)&&vF e.v else if e.op=2 then Z0 e.v else if e.op=24 then Z0 e.v&&(decide (0<=e.int)&&decide (e.int<13)) else decide (e.int=0)&&Z0 e.v)
theorem tq (e:Ex) (h:e.args.length<=100000):mG e=some ((decide (0<=(nY e.op).1)&&(decide ((nY e.op).1<=((e.args.length:Nat):Int))&&decide (((e.args.length:Nat):Int)<=(nY e.op).2)))&&DR e)/\sH e=some ((decide (0<=(nY e.op).1)&&(decide ((nY e.op).1<=((e.args.length:Nat):Int))&&decide (((e.args.length:Nat):Int)<=(nY e.op).2)))&&DR e):=by
 obtain ⟨h1,h2,h3,h4⟩:=zf e.op ((e.args.length:Nat):Int) (by omega)
 generalize nY e.op=a at h1 h2 h3 h4
 obtain ⟨lo,hi⟩:=a
 dsimp only at h1 h2 h3 h4 ⊢
 have hR:mG e=(bif decide (0<=lo)&&(decide (lo<=((e.args.length:Nat):Int))&&decide (((e.args.length:Nat):Int)<=hi)) then some (DR e) else some false):=by
  unfold mG
  rw [h1,agU]
  dsimp only
  by_cases c1:0<=lo
  ·rw [agY (show ¬ lo<0 by omega),agZ c1,agW,ahr]
   by_cases c2:lo<=((e.args.length:Nat):Int)
   ·rw [agY (show ¬ ((e.args.length:Nat):Int)<lo by omega),agZ c2,agW,ahr]
    by_cases c3:((e.args.length:Nat):Int)<=hi
    ·rw [agY (show ¬ hi<((e.args.length:Nat):Int) by omega),agZ c3,agW,agX]
     unfold DR
     cases (e.nm.toList==(⟨#[]⟩:ByteArray).toList) with
     | false=>rfl
     | true =>
      rw [Bool.not_true,agW,ahr]
      by_cases o1:e.op=1
      ·rw [agZ o1,agX,if_pos o1,lK]
       cases decide (e.int=0)<;>rfl
      ·rw [agY o1,agW,if_neg o1,dn]
       by_cases o2:e.op=2
       ·rw [agZ o2,agX,if_pos o2];rfl
       ·rw [agY o2,agW,if_neg o2]
        by_cases o3:e.op=24
        ·rw [agZ o3,agX,if_pos o3]
         show (bif Z0 e.v then _ else _)=_
         cases Z0 e.v
         ·rfl
         ·rw [agX,ahr]
          cases decide (0<=e.int)<;>rfl
        ·rw [agY o3,agW,if_neg o3]
         cases decide (e.int=0)<;>rfl
    ·rw [agZ (show hi<((e.args.length:Nat):Int) by omega),agY c3,agX];rfl
   ·rw [agZ (show ((e.args.length:Nat):Int)<lo by omega),agY c2,agX];rfl
  ·rw [agZ (show lo<0 by omega),agY c1,agX];rfl
 have hP:sH e=(bif decide (0<=lo)&&(decide (lo<=((e.args.length:Nat):Int))&&decide (((e.args.length:Nat):Int)<=hi)) then some (DR e) else some false):=by
  unfold sH
  rw [h2,agU]
  dsimp only
  cases (decide (0<=lo)&&(decide (lo<=((e.args.length:Nat):Int))&&decide (((e.args.length:Nat):Int)<=hi))) with
  | false=>rfl
  | true =>
   rw [Bool.not_true,agW,agX]
   unfold DR
   cases (e.nm.toList==(⟨#[]⟩:ByteArray).toList) with
   | false=>rfl
   | true =>
    rw [Bool.not_true,agW,ahr]
    by_cases o1:e.op=1
    ·rw [agZ o1,agX,if_pos o1,Ct]
     cases decide (e.int=0)<;>rfl
    ·rw [agY o1,agW,if_neg o1]
     by_cases o3:e.op=24
     ·have o2 : ¬ e.op=2:=by omega
      rw [agZ o3,agX,if_neg o2,if_pos o3]
      by_cases i1:0<=e.int
      ·rw [agY (show ¬ e.int<0 by omega),agW,agZ i1,ahr]
       by_cases i2:e.int<13
       ·rw [agY (show ¬ 13<=e.int by omega),agW,agZ i2,Bool.and_true];rfl
       ·rw [agZ (show 13<=e.int by omega),agX,agY i2,Bool.and_false]
      ·rw [agZ (show e.int<0 by omega),agX,agY i1,Bool.false_and,Bool.and_false]
     ·rw [agY o3,agW]
      by_cases o2:e.op=2
      ·rw [agZ o2,agX,if_pos o2];rfl
      ·rw [agY o2,agW,if_neg o2,if_neg o3]
       cases decide (e.int=0)<;>rfl
 rw [hR,hP]
 cases (decide (0<=lo)&&(decide (lo<=((e.args.length:Nat):Int))&&decide (((e.args.length:Nat):Int)<=hi)))<;>exact ⟨rfl,rfl⟩
theorem F6 {e:Ex} (h:e.args.length<=100000):mG e=some (xI e):=by unfold xI;rw [(tq e h).1];rfl
theorem Iz {e:Ex} (h:e.args.length<=100000):sH e=some (xI e):=by unfold xI;rw [(tq e h).2,(tq e h).1];rfl
theorem B_ {e:Ex} (h:e.args.length<=100000) (hf:xI e=true):(e.op=1\/e.op=2\/e.op=4\/e.op=5\/e.op=6\/e.op=7\/e.op=8\/e.op=9\/e.op=10\/e.op=11\/e.op=12\/e.op=13\/e.op=14\/e.op=15\/e.op=16\/e.op=17\/e.op=18\/e.op=19\/e.op=20\/e.op=21\/e.op=22\/e.op=23\/e.op=24)/\(nY e.op).1<=((e.args.length:Nat):Int)/\((e.args.length:Nat):Int)<=(nY e.op).2/\DR e=true:=by
 obtain ⟨_,_,h3,_⟩:=zf e.op ((e.args.length:Nat):Int) (by omega)
 unfold xI at hf
 rw [(tq e h).1,Option.getD_some,ahb,ahb,ahb] at hf
 exact ⟨h3 (ahm hf.1.1),ahm hf.1.2.1,ahm hf.1.2.2,hf.2⟩
theorem Tn {e:Ex} (h:e.op=1) (hr:DR e=true):vF e.v=true:=by
 unfold DR at hr
 rw [if_pos h,ahb,ahb] at hr
 exact hr.2.2
set_option maxHeartbeats 8000000
def GL (rec:Ex->List Val->Option Val) (a_e:Ex) (a_row:(List Val)):Option (Int):=(rec a_e a_row).bind fun r_1=>(lh r_1).bind fun r_2=>some r_2
theorem SY {rec:Ex->List Val->Option Val}  (hrec : ∀ {x:Ex} {y:List Val} {r:Val}, rec x y=some r->Pure Tryz.prog 52 [.agg (tE x), .one (.lst (y.map cV))] (.val (.agg (cV r)))) {a_e:Ex} {a_row:(List Val)} {r:Int} (H:GL rec a_e a_row=some r):Pure Tryz.prog 73 [.agg (tE a_e), .one (.lst (a_row.map cV))] (.val (.one (.int .i64 r))):=by
 unfold GL at H
 rw [aC a_e]
 refine po_ Tryz.func73 Tryz.ntmps73 ?_
 obtain ⟨r_1,c1,H⟩:=bd_ H
 replace c1:=hrec c1
 try simp only [ag8,ag6,ag_,ag0,aC] at c1
 obtain ⟨r_2,c2,H⟩:=bd_ H
 replace c2:=lN c2
 cases H
 exact aD
def uS (c_15:(List Val)):(Int)->Option (Step (Int) (Val)):=fun s=>match s with
 | v_30=>bif (decide (v_30<((c_15.length:Nat):Int))) then (aH c_15 v_30).bind fun x_32=>bif (decide (x_32.kind≠(0:Int))) then some (.ret x_32) else
 some (.next (IntKind.i64.wrap (v_30+(1:Int)))) else
 some (.exit v_30)
def qh:Sum (Int) (Val)->Option ((Val))
 | .inl v_30=>(oM ).bind fun r_34=>some r_34
 | .inr q=>some q
def uQ (a_e:Ex) (a_row:(List Val)) (rec:Ex->List Val->Option Val):((List Val) × Int)->Option (Step ((List Val) × Int) (Val)):=fun s=>match s with
 | (c_15,v_16)=>bif (decide (v_16<((a_e.args.length:Nat):Int))) then (aH a_e.args v_16).bind fun x_18=>(rec x_18 a_row).bind fun r_19=>bif (decide (0<=v_16)) then (bif (decide (v_16<((a_e.args.length:Nat):Int))) then (bif (decide ((0+v_16.toNat)<c_15.length)) then (some (.next ((c_15.set (0+v_16.toNat) r_19),(IntKind.i64.wrap (v_16+(1:Int)))))) else none) else none) else none else
 some (.exit (c_15,v_16))
def bK (a_e:Ex):Sum ((List Val) × Int) (Val)->Option ((Val))
 | .inl (c_15,v_16)=>bif (decide (c_15.length=a_e.args.length)) then (bif (decide (a_e.op=(4:Int))) then (rJ a_e.op c_15).bind fun r_21=>some r_21 else
 bif (decide (a_e.op=(5:Int))) then (rJ a_e.op c_15).bind fun r_23=>some r_23 else
 bif (decide (a_e.op=(6:Int))) then (rJ a_e.op c_15).bind fun r_25=>some r_25 else
 bif (decide (a_e.op=(21:Int))) then (aH c_15 (0:Int)).bind fun x_27=>(yg (decide (x_27.kind=(0:Int)))).bind fun r_28=>some r_28 else
 bif (decide (a_e.op=(23:Int))) then (ax (uS c_15) fuel (0:Int)).bind (qh) else
 bif (decide (a_e.op=(24:Int))) then (y_ a_e.int c_15).bind fun r_36=>some r_36 else
 bif (decide (a_e.op=(19:Int))) then (zx a_e.op c_15).bind fun r_38=>some r_38 else
 bif (decide (a_e.op=(20:Int))) then (zx a_e.op c_15).bind fun r_40=>some r_40 else
 bif (decide (a_e.op=(13:Int))) then (pu a_e.op c_15).bind fun r_42=>some r_42 else
 bif (decide (a_e.op=(14:Int))) then (pu a_e.op c_15).bind fun r_44=>some r_44 else
 bif (decide (a_e.op=(15:Int))) then (pu a_e.op c_15).bind fun r_46=>some r_46 else
 bif (decide (a_e.op=(16:Int))) then (pu a_e.op c_15).bind fun r_48=>some r_48 else
 bif (decide (a_e.op=(17:Int))) then (pu a_e.op c_15).bind fun r_50=>some r_50 else
 bif (decide (a_e.op=(18:Int))) then (pu a_e.op c_15).bind fun r_52=>some r_52 else
 (aH c_15 (0:Int)).bind fun x_53=>(aH c_15 (1:Int)).bind fun x_54=>(oo a_e.op x_53 x_54).bind fun r_55=>(Ee r_55).bind fun r_56=>some r_56) else none
 | .inr q=>some q
def EY (rec:Ex->List Val->Option Val) (a_e:Ex) (a_row:(List Val)):Option (Val):=(sH a_e).bind fun r_1=>bif (!r_1) then (oM ).bind fun r_3=>some r_3 else
 bif (decide (a_e.op=(1:Int))) then some a_e.v else
 bif (decide (a_e.op=(2:Int))) then (Dk a_row a_e.int).bind fun r_6=>some r_6 else
 bif (decide (a_e.op=(22:Int))) then (aH a_e.args (0:Int)).bind fun x_8=>(GL rec x_8 a_row).bind fun r_9=>bif (decide (r_9=(2:Int))) then (aH a_e.args (1:Int)).bind fun x_11=>(rec x_11 a_row).bind fun r_12=>some r_12 else
 (aH a_e.args (2:Int)).bind fun x_13=>(rec x_13 a_row).bind fun r_14=>some r_14 else
 bif (decide (0<=((a_e.args.length:Nat):Int))) then (bif (decide ((32:Int)*((a_e.args.length:Nat):Int)<=281474976710656)) then (bif (decide (((a_e.args.length:Nat):Int)<=9223372036854775807)) then ((ax (uQ a_e a_row rec) fuel ((List.replicate a_e.args.length ((⟨(0:Int),(0:Int),ByteArray.empty⟩:Val))),(0:Int))).bind (bK a_e)) else none) else none) else none
theorem jY {p q:Prop} (k:q) (h:Bx q->p:=by
 intro hq
 repeat' (first|refine jQ rfl rfl rfl rfl rfl (FB tab_ok (k:=3) (by_:=32) rfl rfl rfl (by decide) rfl rfl rfl rfl rfl (by decide) (by omega) (by omega) (by omega)) ?_|refine Hq (enc:=cV) rfl rfl rfl rfl rfl (by omega) rfl (fun _=>rfl) rfl ?_|refine gs_ ?_|fail)
 exact hq.out):p:=h ⟨k⟩
theorem dx {p:Prop} (h:p:=by
 repeat' (first|refine jQ rfl rfl rfl rfl rfl (FB tab_ok (k:=3) (by_:=32) rfl rfl rfl (by decide) rfl rfl rfl rfl rfl (by decide) (by omega) (by omega) (by omega)) ?_|refine Hq (enc:=cV) rfl rfl rfl rfl rfl (by omega) rfl (fun _=>rfl) rfl ?_|refine gs_ ?_|fail)
 refine bO (bZ rfl ?_ ?_)
 ·repeat' (first|exact trivial|rfl|exact ag5 rfl|omega|apply And.intro)
 ·first|rfl|(simp only [ag8,ag6,ag_,ag0]<;>rfl)):p:=h
theorem WS {rec:Ex->List Val->Option Val}  (hrec : ∀ {x:Ex} {y:List Val} {r:Val}, rec x y=some r->Pure Tryz.prog 52 [.agg (tE x), .one (.lst (y.map cV))] (.val (.agg (cV r)))) {a_e:Ex} {a_row:(List Val)} {r:Val} (H:EY rec a_e a_row=some r):Pure Tryz.prog 52 [.agg (tE a_e), .one (.lst (a_row.map cV))] (.val (.agg (cV r))):=by
 unfold EY at H
 rw [aC a_e]
 refine po_ Tryz.func52 Tryz.ntmps52 ?_
 obtain ⟨r_1,c1,H⟩:=bd_ H
 replace c1:=TV c1
 try simp only [ag8,ag6,ag_,ag0,aC] at c1
 rcases af H with ⟨q_2,H⟩|⟨q_2,H⟩
 ·obtain ⟨r_3,c2,H⟩:=bd_ H
  replace c2:=gu c2
  cases H
  exact dx
 rcases af H with ⟨q_4,H⟩|⟨q_4,H⟩
 ·cases H
  exact dx
 refine jY ?_
 rcases af H with ⟨q_5,H⟩|⟨q_5,H⟩
 ·obtain ⟨r_6,c3,H⟩:=bd_ H
  replace c3:=Tc c3
  cases H
  exact dx
 rcases af H with ⟨q_7,H⟩|⟨q_7,H⟩
 ·obtain ⟨x_8,i4z,i4,i4x,H⟩:=aY (f:=tE) H
  simp only [ag8,ag6,ag_,ag0,aC] at i4x
  obtain ⟨r_9,c5,H⟩:=bd_ H
  replace c5:=SY hrec c5
  try simp only [ag8,ag6,ag_,ag0,aC] at c5
  rcases af H with ⟨q_10,H⟩|⟨q_10,H⟩
  ·obtain ⟨x_11,i6z,i6,i6x,H⟩:=aY (f:=tE) H
   simp only [ag8,ag6,ag_,ag0,aC] at i6x
   obtain ⟨r_12,c7,H⟩:=bd_ H
   replace c7:=hrec c7
   try simp only [ag8,ag6,ag_,ag0,aC] at c7
   cases H
   exact dx
  obtain ⟨x_13,i8z,i8,i8x,H⟩:=aY (f:=tE) H
  simp only [ag8,ag6,ag_,ag0,aC] at i8x
  obtain ⟨r_14,c9,H⟩:=bd_ H
  replace c9:=hrec c9
  try simp only [ag8,ag6,ag_,ag0,aC] at c9
  cases H
  exact dx
 obtain ⟨g10,H⟩:=aG H
 obtain ⟨g11,H⟩:=aG H
 obtain ⟨g12,H⟩:=aG H
 refine jY ?_
 refine alM_ (fun s:(List Val) × Int=>match s with|(c_15,v_16)=>[(1, .one (.c (.lst (a_row.map cV)))),(2, .one (.ptr 0 0)),(4, .one (.ptr 1 0)),(5, .one (.sl 2 (27+65536) 0 a_e.args.length)),(52, .one (.c (.lst (a_e.args.map tE)))),(53, .one (.c (.int .i64 ((a_e.args.length:Nat):Int)))),(54, .one (.c (.int .i64 v_16)))]) (fun s=>match s with|(c_15,v_16)=>[.box [.c (.int .i64 a_e.op), .c (.int .i64 a_e.int), .c (.int .i64 a_e.v.kind), .c (.int .i64 a_e.v.int), .c (.str a_e.v.text), .c (.str a_e.nm), .c (.lst (a_e.args.map tE))], .box [.c (.int .i64 (0:Int)), .c (.int .i64 (0:Int)), .c (.str ByteArray.empty)], .row (27+65536) ((c_15.map cV).map (List.map SV.c)) 3]) H (fun _=>ahe _)
  (fm_ dh [] (by simp only [List.map_replicate]<;>rfl) bH ⟨kQ (by rfl),kQ (by rfl),CE _ _ _ _ _,trivial⟩) ?_
 rintro ⟨c_15,v_16⟩ st1 hb1 hk1
 unfold uQ at hb1
 dsimp only at hb1 ⊢
 rcases af hb1 with ⟨q_17,hb1⟩|⟨q_17,hb1⟩
 ·obtain ⟨x_18,i13z,i13,i13x,hb1⟩:=aY (f:=tE) hb1
  simp only [ag8,ag6,ag_,ag0,aC] at i13x
  obtain ⟨r_19,c14,hb1⟩:=bd_ hb1
  replace c14:=hrec c14
  try simp only [ag8,ag6,ag_,ag0,aC] at c14
  obtain ⟨g15,hb1⟩:=aG hb1
  obtain ⟨g16,hb1⟩:=aG hb1
  obtain ⟨g17,hb1⟩:=aG hb1
  cases hb1
  refine jY ?_
  exact ⟨_,rfl,fm_ dh [_] rfl bH ⟨kQ (by rfl),kQ (by rfl),CE _ _ _ _ _,trivial⟩⟩
 cases hb1
 have hx1:bK a_e (.inl (c_15,v_16))=some _:=hk1
 unfold bK at hx1
 dsimp only at hx1
 obtain ⟨g18,hx1⟩:=aG hx1
 have z19:((c_15.map cV).drop 0).take a_e.args.length=c_15.map cV:=by rw [List.drop_zero,ahy];rw [ag7];omega
 refine wM 2 (cs:=c_15.map cV) rfl (GV _) ?_
 simp only [ag6,ag_,thA,thS,and_self,if_true,eq_self,List.set,z19]
 refine jY ?_
 rcases af hx1 with ⟨q_20,hx1⟩|⟨q_20,hx1⟩
 ·obtain ⟨r_21,c20,hx1⟩:=bd_ hx1
  replace c20:=Ez c20
  cases hx1
  exact dx
 rcases af hx1 with ⟨q_22,hx1⟩|⟨q_22,hx1⟩
 ·obtain ⟨r_23,c21,hx1⟩:=bd_ hx1
  replace c21:=Ez c21
  cases hx1
  exact dx
 rcases af hx1 with ⟨q_24,hx1⟩|⟨q_24,hx1⟩
 ·obtain ⟨r_25,c22,hx1⟩:=bd_ hx1
  replace c22:=Ez c22
  cases hx1
  exact dx
 refine jY ?_
 rcases af hx1 with ⟨q_26,hx1⟩|⟨q_26,hx1⟩
 ·obtain ⟨x_27,i23z,i23,i23x,hx1⟩:=aY (f:=cV) hx1
  obtain ⟨r_28,c24,hx1⟩:=bd_ hx1
  replace c24:=uM c24
  cases hx1
  exact dx
 rcases af hx1 with ⟨q_29,hx1⟩|⟨q_29,hx1⟩
 ·refine jY ?_
  refine alM_ (fun s:Int=>match s with|v_30=>[(4, .one (.ptr 1 0)),(86, .one (.c (.lst (c_15.map cV)))),(87, .one (.c (.int .i64 ((c_15.length:Nat):Int)))),(88, .one (.c (.int .i64 v_30)))]) (fun s=>match s with|v_30=>[.box [.c (.int .i64 a_e.op), .c (.int .i64 a_e.int), .c (.int .i64 a_e.v.kind), .c (.int .i64 a_e.v.int), .c (.str a_e.v.text), .c (.str a_e.nm), .c (.lst (a_e.args.map tE))], .box [.c (.int .i64 (0:Int)), .c (.int .i64 (0:Int)), .c (.str ByteArray.empty)], .dead]) hx1 (fun _=>ahe _)
   (fm_ dh [] rfl bH dw) ?_
  rintro v_30 st2 hb2 hk2
  unfold uS at hb2
  dsimp only at hb2 ⊢
  rcases af hb2 with ⟨q_31,hb2⟩|⟨q_31,hb2⟩
  ·obtain ⟨x_32,i25z,i25,i25x,hb2⟩:=aY (f:=cV) hb2
   refine jY ?_
   rcases af hb2 with ⟨q_33,hb2⟩|⟨q_33,hb2⟩
   ·cases hb2
    have hx2:qh (.inr x_32)=some _:=hk2
    unfold qh at hx2
    dsimp only at hx2
    cases hx2
    exact dx
   cases hb2
   refine jY ?_
   exact ⟨_,rfl,fm_ dh [_] rfl bH dw⟩
  cases hb2
  have hx2:qh (.inl v_30)=some _:=hk2
  unfold qh at hx2
  dsimp only at hx2
  obtain ⟨r_34,c26,hx2⟩:=bd_ hx2
  replace c26:=gu c26
  cases hx2
  exact dx
 rcases af hx1 with ⟨q_35,hx1⟩|⟨q_35,hx1⟩
 ·obtain ⟨r_36,c27,hx1⟩:=bd_ hx1
  replace c27:=RX c27
  cases hx1
  exact dx
 refine jY ?_
 rcases af hx1 with ⟨q_37,hx1⟩|⟨q_37,hx1⟩
 ·obtain ⟨r_38,c28,hx1⟩:=bd_ hx1
  replace c28:=MC c28
  cases hx1
  exact dx
 rcases af hx1 with ⟨q_39,hx1⟩|⟨q_39,hx1⟩
 ·obtain ⟨r_40,c29,hx1⟩:=bd_ hx1
  replace c29:=MC c29
  cases hx1
  exact dx
 rcases af hx1 with ⟨q_41,hx1⟩|⟨q_41,hx1⟩
 ·obtain ⟨r_42,c30,hx1⟩:=bd_ hx1
  replace c30:=qx c30
  cases hx1
  exact dx
 refine jY ?_
 rcases af hx1 with ⟨q_43,hx1⟩|⟨q_43,hx1⟩
 ·obtain ⟨r_44,c31,hx1⟩:=bd_ hx1
  replace c31:=qx c31
  cases hx1
  exact dx
 rcases af hx1 with ⟨q_45,hx1⟩|⟨q_45,hx1⟩
 ·obtain ⟨r_46,c32,hx1⟩:=bd_ hx1
  replace c32:=qx c32
  cases hx1
  exact dx
 rcases af hx1 with ⟨q_47,hx1⟩|⟨q_47,hx1⟩
 ·obtain ⟨r_48,c33,hx1⟩:=bd_ hx1
  replace c33:=qx c33
  cases hx1
  exact dx
 refine jY ?_
 rcases af hx1 with ⟨q_49,hx1⟩|⟨q_49,hx1⟩
 ·obtain ⟨r_50,c34,hx1⟩:=bd_ hx1
  replace c34:=qx c34
  cases hx1
  exact dx
 rcases af hx1 with ⟨q_51,hx1⟩|⟨q_51,hx1⟩
 ·obtain ⟨r_52,c35,hx1⟩:=bd_ hx1
  replace c35:=qx c35
  cases hx1
  exact dx
 obtain ⟨x_53,i36z,i36,i36x,hx1⟩:=aY (f:=cV) hx1
 obtain ⟨x_54,i37z,i37,i37x,hx1⟩:=aY (f:=cV) hx1
 obtain ⟨r_55,c38,hx1⟩:=bd_ hx1
 replace c38:=Ia c38
 obtain ⟨r_56,c39,hx1⟩:=bd_ hx1
 replace c39:=DI c39
 cases hx1
 exact dx
def pK:Nat->Ex->List Val->Option Val
 | 0,_,_=>none
 | n+1,e,r=>EY (pK n) e r
theorem rC : ∀ (n:Nat) {x:Ex} {y:List Val} {r:Val}, pK n x y=some r->Pure Tryz.prog 52 [.agg (tE x), .one (.lst (y.map cV))] (.val (.agg (cV r)))
 | 0,_,_,_,h=>nomatch h
 | n+1,_,_,_,h=>WS (rC n) h
set_option maxHeartbeats 8000000
def qQ (a_e:Ex) (a_row:(List Val)) (rec:Ex->List Val->Option Val):((List Val) × Int)->Option (Step ((List Val) × Int) (Val)):=fun s=>match s with
 | (l_4,i_5)=>bif (decide (i_5<((a_e.args.length:Nat):Int))) then (aH a_e.args i_5).bind fun x_7=>(rec x_7 a_row).bind fun r_8=>bif (decide (l_4.length+1<=4398046511104)) then (some (.next ((l_4++[r_8]),(IntKind.i64.wrap (i_5+(1:Int)))))) else none else
 some (.exit (l_4,i_5))
def gER_K (a_e:Ex) (a_row:(List Val)):Sum ((List Val) × Int) (Val)->Option ((Val))
 | .inl (l_4,i_5)=>bif (decide (a_e.op=(1:Int))) then (Gt a_e a_row).bind fun r_10=>some r_10 else
 bif (decide (a_e.op=(2:Int))) then (Gt a_e a_row).bind fun r_12=>some r_12 else
 bif (decide (a_e.op=(4:Int))) then (aH l_4 (0:Int)).bind fun x_14=>(jy x_14).bind fun r_15=>(Ku r_15).bind fun r_16=>(GD r_16).bind fun r_17=>some r_17 else
 bif (decide (a_e.op=(5:Int))) then (Ah a_e.op l_4).bind fun r_19=>some r_19 else
 bif (decide (a_e.op=(6:Int))) then (Ah a_e.op l_4).bind fun r_21=>some r_21 else
 bif (decide (a_e.op=(7:Int))) then (aH l_4 (0:Int)).bind fun x_23=>(aH l_4 (1:Int)).bind fun x_24=>(jl a_e.op x_23 x_24).bind fun r_25=>(GD r_25).bind fun r_26=>some r_26 else
 bif (decide (a_e.op=(8:Int))) then (aH l_4 (0:Int)).bind fun x_28=>(aH l_4 (1:Int)).bind fun x_29=>(jl a_e.op x_28 x_29).bind fun r_30=>(GD r_30).bind fun r_31=>some r_31 else
 bif (decide (a_e.op=(9:Int))) then (aH l_4 (0:Int)).bind fun x_33=>(aH l_4 (1:Int)).bind fun x_34=>(jl a_e.op x_33 x_34).bind fun r_35=>(GD r_35).bind fun r_36=>some r_36 else
 bif (decide (a_e.op=(10:Int))) then (aH l_4 (0:Int)).bind fun x_38=>(aH l_4 (1:Int)).bind fun x_39=>(jl a_e.op x_38 x_39).bind fun r_40=>(GD r_40).bind fun r_41=>some r_41 else
 bif (decide (a_e.op=(11:Int))) then (aH l_4 (0:Int)).bind fun x_43=>(aH l_4 (1:Int)).bind fun x_44=>(jl a_e.op x_43 x_44).bind fun r_45=>(GD r_45).bind fun r_46=>some r_46 else
 bif (decide (a_e.op=(12:Int))) then (aH l_4 (0:Int)).bind fun x_48=>(aH l_4 (1:Int)).bind fun x_49=>(jl a_e.op x_48 x_49).bind fun r_50=>(GD r_50).bind fun r_51=>some r_51 else
 bif (decide (a_e.op=(18:Int))) then (RF l_4 (1:Int)).bind fun r_53=>bif (!r_53) then (fQ ).bind fun r_55=>some r_55 else
 (aH l_4 (0:Int)).bind fun x_56=>(sF (IntKind.i64.wrap (0-x_56.int))).bind fun r_57=>some r_57 else
 bif (decide (a_e.op=(19:Int))) then (yH a_e.op l_4).bind fun r_59=>some r_59 else
 bif (decide (a_e.op=(20:Int))) then (yH a_e.op l_4).bind fun r_61=>some r_61 else
 bif (decide (a_e.op=(21:Int))) then (aH l_4 (0:Int)).bind fun x_63=>(wB (decide (x_63.kind=(0:Int)))).bind fun r_64=>some r_64 else
 bif (decide (a_e.op=(22:Int))) then (ww a_e.op l_4).bind fun r_66=>some r_66 else
 bif (decide (a_e.op=(23:Int))) then (ww a_e.op l_4).bind fun r_68=>some r_68 else
 bif (decide (a_e.op=(24:Int))) then (uL a_e.int l_4).bind fun r_70=>some r_70 else
 (RF l_4 (1:Int)).bind fun r_71=>bif (!r_71) then (fQ ).bind fun r_73=>some r_73 else
 (aH l_4 (0:Int)).bind fun x_74=>(aH l_4 (1:Int)).bind fun x_75=>(eD a_e.op x_74.int x_75.int).bind fun r_76=>some r_76
 | .inr q=>some q
def Aj (rec:Ex->List Val->Option Val) (a_e:Ex) (a_row:(List Val)):Option (Val):=(mG a_e).bind fun r_1=>bif (!r_1) then (fQ ).bind fun r_3=>some r_3 else
 (ax (qQ a_e a_row rec) fuel ([],(0:Int))).bind (gER_K a_e a_row)
theorem UH {rec:Ex->List Val->Option Val}  (hrec : ∀ {x:Ex} {y:List Val} {r:Val}, rec x y=some r->Pure Tryz.prog 55 [.agg (tE x), .one (.lst (y.map cV))] (.val (.agg (cV r)))) {a_e:Ex} {a_row:(List Val)} {r:Val} (H:Aj rec a_e a_row=some r):Pure Tryz.prog 55 [.agg (tE a_e), .one (.lst (a_row.map cV))] (.val (.agg (cV r))):=by
 unfold Aj at H
 rw [aC a_e]
 refine po_ Tryz.func55 Tryz.ntmps55 ?_
 obtain ⟨r_1,c1,H⟩:=bd_ H
 replace c1:=Gp c1
 try simp only [ag8,ag6,ag_,ag0,aC] at c1
 rcases af H with ⟨q_2,H⟩|⟨q_2,H⟩
 ·obtain ⟨r_3,c2,H⟩:=bd_ H
  replace c2:=dm c2
  cases H
  exact aD
 refine bF ?_
 refine bX 5 3 rfl ?_
 refine alM_ (fun s:(List Val) × Int=>match s with|(l_4,i_5)=>[(1, .one (.c (.lst (a_row.map cV)))),(2, .one (.ptr 0 0)),(4, .one (.ptr 1 0)),(5, .one (.own (l_4.map cV) 2)),(6, .one (.c (.int .i64 i_5)))]) (fun s=>match s with|(l_4,i_5)=>[.box [.c (.int .i64 a_e.op), .c (.int .i64 a_e.int), .c (.int .i64 a_e.v.kind), .c (.int .i64 a_e.v.int), .c (.str a_e.v.text), .c (.str a_e.nm), .c (.lst (a_e.args.map tE))], .box [.c (.int .i64 (0:Int)), .c (.int .i64 (0:Int)), .c (.str ByteArray.empty)], .spare l_4.length 3]) H (fun _=>ahe _)
  (fm_ dh [] rfl bH dw) ?_
 rintro ⟨l_4,i_5⟩ st1 hb1 hk1
 unfold qQ at hb1
 dsimp only at hb1 ⊢
 rcases af hb1 with ⟨q_6,hb1⟩|⟨q_6,hb1⟩
 ·obtain ⟨x_7,i3z,i3,i3x,hb1⟩:=aY (f:=tE) hb1
  simp only [ag8,ag6,ag_,ag0,aC] at i3x
  obtain ⟨r_8,c4,hb1⟩:=bd_ hb1
  replace c4:=hrec c4
  try simp only [ag8,ag6,ag_,ag0,aC] at c4
  obtain ⟨g5,hb1⟩:=aG hb1
  cases hb1
  refine bF ?_
  exact ⟨_,rfl,fm_ lC [] lD bH dw⟩
 cases hb1
 have hx1:gER_K a_e a_row (.inl (l_4,i_5))=some _:=hk1
 unfold gER_K at hx1
 dsimp only at hx1
 refine bF ?_
 rcases af hx1 with ⟨q_9,hx1⟩|⟨q_9,hx1⟩
 ·obtain ⟨r_10,c6,hx1⟩:=bd_ hx1
  replace c6:=QG c6
  try simp only [ag8,ag6,ag_,ag0,aC] at c6
  cases hx1
  exact aD
 rcases af hx1 with ⟨q_11,hx1⟩|⟨q_11,hx1⟩
 ·obtain ⟨r_12,c7,hx1⟩:=bd_ hx1
  replace c7:=QG c7
  try simp only [ag8,ag6,ag_,ag0,aC] at c7
  cases hx1
  exact aD
 rcases af hx1 with ⟨q_13,hx1⟩|⟨q_13,hx1⟩
 ·obtain ⟨x_14,i8z,i8,i8x,hx1⟩:=aY (f:=cV) hx1
  obtain ⟨r_15,c9,hx1⟩:=bd_ hx1
  replace c9:=nO c9
  obtain ⟨r_16,c10,hx1⟩:=bd_ hx1
  replace c10:=Ep c10
  obtain ⟨r_17,c11,hx1⟩:=bd_ hx1
  replace c11:=sK c11
  cases hx1
  exact aD
 refine bF ?_
 rcases af hx1 with ⟨q_18,hx1⟩|⟨q_18,hx1⟩
 ·obtain ⟨r_19,c12,hx1⟩:=bd_ hx1
  replace c12:=H8 c12
  cases hx1
  exact aD
 rcases af hx1 with ⟨q_20,hx1⟩|⟨q_20,hx1⟩
 ·obtain ⟨r_21,c13,hx1⟩:=bd_ hx1
  replace c13:=H8 c13
  cases hx1
  exact aD
 rcases af hx1 with ⟨q_22,hx1⟩|⟨q_22,hx1⟩
 ·obtain ⟨x_23,i14z,i14,i14x,hx1⟩:=aY (f:=cV) hx1
  obtain ⟨x_24,i15z,i15,i15x,hx1⟩:=aY (f:=cV) hx1
  obtain ⟨r_25,c16,hx1⟩:=bd_ hx1
  replace c16:=kE c16
  obtain ⟨r_26,c17,hx1⟩:=bd_ hx1
  replace c17:=sK c17
  cases hx1
  exact aD
 refine bF ?_
 rcases af hx1 with ⟨q_27,hx1⟩|⟨q_27,hx1⟩
 ·obtain ⟨x_28,i18z,i18,i18x,hx1⟩:=aY (f:=cV) hx1
  obtain ⟨x_29,i19z,i19,i19x,hx1⟩:=aY (f:=cV) hx1
  obtain ⟨r_30,c20,hx1⟩:=bd_ hx1
  replace c20:=kE c20
  obtain ⟨r_31,c21,hx1⟩:=bd_ hx1
  replace c21:=sK c21
  cases hx1
  exact aD
 rcases af hx1 with ⟨q_32,hx1⟩|⟨q_32,hx1⟩
 ·obtain ⟨x_33,i22z,i22,i22x,hx1⟩:=aY (f:=cV) hx1
  obtain ⟨x_34,i23z,i23,i23x,hx1⟩:=aY (f:=cV) hx1
  obtain ⟨r_35,c24,hx1⟩:=bd_ hx1
  replace c24:=kE c24
  obtain ⟨r_36,c25,hx1⟩:=bd_ hx1
  replace c25:=sK c25
  cases hx1
  exact aD
 rcases af hx1 with ⟨q_37,hx1⟩|⟨q_37,hx1⟩
 ·obtain ⟨x_38,i26z,i26,i26x,hx1⟩:=aY (f:=cV) hx1
  obtain ⟨x_39,i27z,i27,i27x,hx1⟩:=aY (f:=cV) hx1
  obtain ⟨r_40,c28,hx1⟩:=bd_ hx1
  replace c28:=kE c28
  obtain ⟨r_41,c29,hx1⟩:=bd_ hx1
  replace c29:=sK c29
  cases hx1
  exact aD
 refine bF ?_
 rcases af hx1 with ⟨q_42,hx1⟩|⟨q_42,hx1⟩
 ·obtain ⟨x_43,i30z,i30,i30x,hx1⟩:=aY (f:=cV) hx1
  obtain ⟨x_44,i31z,i31,i31x,hx1⟩:=aY (f:=cV) hx1
  obtain ⟨r_45,c32,hx1⟩:=bd_ hx1
  replace c32:=kE c32
  obtain ⟨r_46,c33,hx1⟩:=bd_ hx1
  replace c33:=sK c33
  cases hx1
  exact aD
 rcases af hx1 with ⟨q_47,hx1⟩|⟨q_47,hx1⟩
 ·obtain ⟨x_48,i34z,i34,i34x,hx1⟩:=aY (f:=cV) hx1
  obtain ⟨x_49,i35z,i35,i35x,hx1⟩:=aY (f:=cV) hx1
  obtain ⟨r_50,c36,hx1⟩:=bd_ hx1
  replace c36:=kE c36
  obtain ⟨r_51,c37,hx1⟩:=bd_ hx1
  replace c37:=sK c37
  cases hx1
  exact aD
 rcases af hx1 with ⟨q_52,hx1⟩|⟨q_52,hx1⟩
 ·obtain ⟨r_53,c38,hx1⟩:=bd_ hx1
  replace c38:=Hl c38
  refine bF ?_
  rcases af hx1 with ⟨q_54,hx1⟩|⟨q_54,hx1⟩
  ·obtain ⟨r_55,c39,hx1⟩:=bd_ hx1
   replace c39:=dm c39
   cases hx1
   exact aD
  obtain ⟨x_56,i40z,i40,i40x,hx1⟩:=aY (f:=cV) hx1
  obtain ⟨r_57,c41,hx1⟩:=bd_ hx1
  replace c41:=oq c41
  cases hx1
  exact aD
 refine bF ?_
 rcases af hx1 with ⟨q_58,hx1⟩|⟨q_58,hx1⟩
 ·obtain ⟨r_59,c42,hx1⟩:=bd_ hx1
  replace c42:=MX c42
  cases hx1
  exact aD
 rcases af hx1 with ⟨q_60,hx1⟩|⟨q_60,hx1⟩
 ·obtain ⟨r_61,c43,hx1⟩:=bd_ hx1
  replace c43:=MX c43
  cases hx1
  exact aD
 rcases af hx1 with ⟨q_62,hx1⟩|⟨q_62,hx1⟩
 ·obtain ⟨x_63,i44z,i44,i44x,hx1⟩:=aY (f:=cV) hx1
  obtain ⟨r_64,c45,hx1⟩:=bd_ hx1
  replace c45:=qj c45
  cases hx1
  exact aD
 refine bF ?_
 rcases af hx1 with ⟨q_65,hx1⟩|⟨q_65,hx1⟩
 ·obtain ⟨r_66,c46,hx1⟩:=bd_ hx1
  replace c46:=IR c46
  cases hx1
  exact aD
 rcases af hx1 with ⟨q_67,hx1⟩|⟨q_67,hx1⟩
 ·obtain ⟨r_68,c47,hx1⟩:=bd_ hx1
  replace c47:=IR c47
  cases hx1
  exact aD
 rcases af hx1 with ⟨q_69,hx1⟩|⟨q_69,hx1⟩
 ·obtain ⟨r_70,c48,hx1⟩:=bd_ hx1
  replace c48:=PM c48
  cases hx1
  exact aD
 obtain ⟨r_71,c49,hx1⟩:=bd_ hx1
 replace c49:=Hl c49
 refine bF ?_
 rcases af hx1 with ⟨q_72,hx1⟩|⟨q_72,hx1⟩
 ·obtain ⟨r_73,c50,hx1⟩:=bd_ hx1
  replace c50:=dm c50
  cases hx1
  exact aD
 obtain ⟨x_74,i51z,i51,i51x,hx1⟩:=aY (f:=cV) hx1
 obtain ⟨x_75,i52z,i52,i52x,hx1⟩:=aY (f:=cV) hx1
 obtain ⟨r_76,c53,hx1⟩:=bd_ hx1
 replace c53:=PG c53
 cases hx1
 exact aD
def kL:Nat->Ex->List Val->Option Val
 | 0,_,_=>none
 | n+1,e,r=>Aj (kL n) e r
theorem Ff : ∀ (n:Nat) {x:Ex} {y:List Val} {r:Val}, kL n x y=some r->Pure Tryz.prog 55 [.agg (tE x), .one (.lst (y.map cV))] (.val (.agg (cV r)))
 | 0,_,_,_,h=>nomatch h
 | n+1,_,_,_,h=>UH (Ff n) h
end Go.Proofs.YtcehmafobkhdbaaGreatDoor
