/- Parts of the proof, joined. No condition. -/
import Derived.Test.YtcehmafobkhdbaaGreatDoorKAA
import Derived.Test.YtcehmafobkhdbaaGreatDoorKBH
import Derived.Test.YtcehmafobkhdbaaGreatDoorKBF
import Derived.Test.YtcehmafobkhdbaaGreatDoorKBG
import Derived.Test.YtcehmafobkhdbaaGreatDoorKAE
import Derived.Test.YtcehmafobkhdbaaGreatDoorKAZ
import Derived.Test.YtcehmafobkhdbaaGreatDoorKAD
set_option linter.unusedSimpArgs false
set_option linter.unusedVariables false
namespace Go.Proofs.YtcehmafobkhdbaaGreatDoor
open Go.RowKit
def ApS (p q:Int × Int):Prop:=p.2<q.1\/q.2<p.1\/(p.1<=q.1/\q.2<=p.2)\/(q.1<=p.1/\p.2<=q.2)
structure Stk (E:List Int) (out:List (Int × Int)) (x:Int):Prop where
 asc:E.Pairwise (· <= ·)
 out2 : ∀ p∈out, ∀ q∈out,ApS p q
 fin : ∀ p∈out,p.2<=x/\p.1<p.2
 opn : ∀ f∈E,f<=x /\ ∀ q∈out,f<=q.1\/q.2<f
theorem Stk.pop {E:List Int} {out:List (Int × Int)} {x y:Int} (h:Stk E out x) (hxy:x<y) (c:Nat) :
  (∀ p∈out++(E.drop c).map (fun f=>(f,y)), ∀ q∈out++(E.drop c).map (fun f=>(f,y)),ApS p q)/\(∀ p∈out++(E.drop c).map (fun f=>(f,y)),p.2<=y/\p.1<p.2):=by
 have key : ∀ p∈out, ∀ f∈E.drop c,ApS p (f,y)/\ApS (f,y) p:=by
  intro p hp f hf
  have h1:=(h.opn f (List.mem_of_mem_drop hf)).2 p hp
  have h2:=h.fin p hp
  unfold ApS
  dsimp only
  omega
 have two : ∀ f∈E.drop c, ∀ g∈E.drop c,ApS (f,y) (g,y):=by
  intro f _ g _
  unfold ApS
  dsimp only
  omega
 refine ⟨fun p hp q hq=>?_,fun p hp=>?_⟩
 ·rcases ahl.1 hp with hp|hp<;>rcases ahl.1 hq with hq|hq
  ·exact h.out2 p hp q hq
  ·obtain ⟨f,hf,rfl⟩:=aht.1 hq
   exact (key p hp f hf).1
  ·obtain ⟨f,hf,rfl⟩:=aht.1 hp
   exact (key q hq f hf).2
  ·obtain ⟨f,hf,rfl⟩:=aht.1 hp
   obtain ⟨g,hg,rfl⟩:=aht.1 hq
   exact two f hf g hg
 ·rcases ahl.1 hp with hp|hp
  ·have:=h.fin p hp;omega
  ·obtain ⟨f,hf,rfl⟩:=aht.1 hp
   have:=(h.opn f (List.mem_of_mem_drop hf)).1
   dsimp only
   omega
theorem Stk.next {E:List Int} {out:List (Int × Int)} {x y:Int} (h:Stk E out x) (hxy:x<y) (c:Nat):Stk (St.Ec E y c) (out++(E.drop c).map fun f=>(f,y)) y:=by
 obtain ⟨h1,h2⟩:=h.pop hxy c
 unfold St.Ec
 refine ⟨?_,h1,h2,fun f hf=>?_⟩
 ·rw [List.pairwise_append]
  refine ⟨h.asc.sublist (List.take_sublist _ _),List.pairwise_replicate.2 (.inr (Int.le_refl _)),fun a ha b hb=>?_⟩
  obtain ⟨_,rfl⟩:=List.mem_replicate.1 hb
  have:=(h.opn a (ahQ ha)).1
  omega
 ·rcases ahl.1 hf with hf|hf
  ·have h3:=h.opn f (ahQ hf)
   refine ⟨by omega,fun q hq=>?_⟩
   rcases ahl.1 hq with hq|hq
   ·exact h3.2 q hq
   ·obtain ⟨g,hg,rfl⟩:=aht.1 hq
    have hs:(E.take c++E.drop c).Pairwise (· <= ·):=by rw [ahE];exact h.asc
    exact .inl ((List.pairwise_append.1 hs).2.2 f hf g hg)
  ·obtain ⟨hc,rfl⟩:=List.mem_replicate.1 hf
   refine ⟨Int.le_refl _,fun q hq=>?_⟩
   rcases ahl.1 hq with hq|hq
   ·have:=(h.fin q hq).1;exact .inr (by omega)
   ·rw [List.drop_eq_nil_of_le (by omega)] at hq
    cases hq
theorem Q_ {l:List (Int × Int)} (ha:St.Asc l) : ∀ k,k<=l.length->(k=0/\St.oU l k=([],[])) \/ ∃ x y,l[k-1]?=some (x,y)/\0<k/\Stk (St.oU l k).1 (St.oU l k).2 x
 | 0,_ => .inl ⟨rfl,rfl⟩
 | k+1,hk=>by
  have ih:=Q_ ha k (by omega)
  have hx:l[k]?=some (l[k]'(by omega)):=ag4 (by omega)
  generalize l[k]'(by omega)=p at hx
  obtain ⟨x,y⟩:=p
  refine .inr ⟨x,y,by simpa using hx,by omega,?_⟩
  rw [St.uT hx]
  unfold St.Ei
  dsimp only
  rcases ih with ⟨_,e⟩|⟨x0,y0,hx0,hk0,h⟩
  ·rw [e]
   exact Stk.next (x:=x-1) ⟨.nil,fun p hp=>(by cases hp),fun p hp=>(by cases hp),fun f hf=>(by cases hf)⟩ (by omega) _
  ·exact h.next (by have:=ha (k-1) k _ _ (by omega) hx0 hx;exact this) _
theorem Zg {l:List (Int × Int)} (ha:St.Asc l) (hF : ∀ s∈l,s.1<1099511627776) : ∀ p∈St.OZ l, ∀ q∈St.OZ l,ApS p q:=by
 unfold St.OZ
 rcases Q_ ha l.length (ag' _) with ⟨_,e⟩|⟨x,y,hx,hk,h⟩
 ·rw [e];intro p hp;cases hp
 ·have:=h.pop (y:=1099511627776) (hF _ (ag1 hx)) 0
  rw [List.drop_zero] at this
  exact this.1
theorem Ho (ps:List aI) (hn:ps.length<=300):Lam (bR ps):=by
 obtain ⟨ha,hF,_,_⟩:=St.iR (lZ ps)
 intro p hp q hq
 have h:=Zg ha hF _ ((Dc ps hn).subset (List.mem_map_of_mem hp)) _ ((Dc ps hn).subset (List.mem_map_of_mem hq))
 exact h
theorem xh (ps:List aI):(bR ps).Pairwise fun p q=>St.fP (toP p) (toP q):=by
 have h:=(St.qd (St.mR (fM ps)) [] .nil).1
 have e:(bR ps).map toP=(St.mR (fM ps)).foldl St.jr []:=V8 ps
 rw [<- e,List.pairwise_map] at h
 exact h
theorem Cq : ∀ {l m:List aI}, (l.Pairwise fun p q=>St.fP (toP p) (toP q))->(m.Pairwise fun p q=>St.fP (toP p) (toP q))->l.Perm m->l=m
 | [],m,_,_,h=>(List.Perm.nil_eq h)
 | p::l,[],_,_,h=>absurd h.length_eq (by simp)
 | p::l,q::m,hl,hm,h=>by
  have hp:p∈q::m:=h.subset (ahG ..)
  have hq:q∈p::l:=h.symm.subset (ahG ..)
  have e:p=q:=by
   rcases aha.1 hp with e|hp
   ·exact e
   ·rcases aha.1 hq with e|hq
    ·exact e.symm
    ·have h1:=List.rel_of_pairwise_cons hl hq
     have h2:=List.rel_of_pairwise_cons hm hp
     unfold St.fP toP at h1 h2
     dsimp only at h1 h2
     exact OJ (by omega) (by omega)
  subst e
  rw [Cq (List.Pairwise.of_cons hl) (List.Pairwise.of_cons hm) ((List.perm_cons p).1 h)]
set_option maxRecDepth 100000
theorem zaaq (a b:List aj) (t:Int):aS (a++b) t=aS a t++aS b t:=by unfold aS;rw [List.filter_append,ag8]
theorem zab7 (l:List aj) (t:Int):(aS l t).length<=l.length:=by unfold aS;rw [ag7];exact List.length_filter_le _ _
theorem zado {l:List aj} {t:Int} {r:List Val} (h:r∈aS l t) : ∃ f∈l,f.row=r:=by
 obtain ⟨f,hf,rfl⟩:=aht.1 h
 exact ⟨f,(List.mem_filter.1 hf).1,rfl⟩
theorem abn {ps:List aI} {p:aI} (hp:p∈ps) {t:Int} (h:aX p t=true):0<ed ps t:=by
 unfold ed
 exact List.length_pos_of_mem (List.mem_filter.2 ⟨hp,h⟩)
theorem Vb {l:List aj} {R:List (List Val)} (h:fV l R) (r:List Val):r∈R ↔ ∃ t,0<ed (bD l r) t:=by
 constructor
 ·intro hr
  obtain ⟨f,hf,hv,e⟩:=(h.2 r).1 hr
  have hp:f.valid∈bD l r:=aht.2 ⟨f,List.mem_filter.2 ⟨hf,by simp [hv,e]⟩,rfl⟩
  have hV:=(EJ f.valid).1 (show St.aO (toP f.valid)=true from hv)
  exact ⟨f.valid.lo,abn hp ((eO hV _).2 ⟨Int.le_refl _,hV.2.1⟩)⟩
 ·rintro ⟨t,ht⟩
  refine Classical.byContradiction fun hr=>?_
  rw [UV h hr] at ht
  exact absurd ht (by simp [ed])
theorem X4 {ps qs:List aI} (hn:ps.length<=300) (hm:qs.length<=300) (h : ∀ t,ed ps t=ed qs t):bR ps=bR qs:=by
 have hc : ∀ t,ed (bR ps) t=ed (bR qs) t:=fun t=>by rw [C8 ps hn,C8 qs hm,h]
 exact Cq (xh ps) (xh qs) (I_ _ (bR ps) (bR qs) rfl (Ho ps hn) (Ho qs hm) (fun p hp=>(EJ p).1 (mg ps hn p hp)) (fun p hp=>(EJ p).1 (mg qs hm p hp)) hc)
theorem abX {l m:List aj} {R T:List (List Val)} (h:fV l R) (k:fV m T) (hl:l.length<=300) (hm:m.length<=300) (hp : ∀ t,(aS l t).Perm (aS m t)):fO l R=fO m T:=by
 have hc : ∀ r t,ed (bD l r) t=ed (bD m r) t:=fun r t=>by rw [<- za, <- za];exact (hp t).count_eq r
 have hR:R=T:=EM h.1 k.1 fun r=>by rw [Vb h,Vb k];simp only [hc]
 subst hR
 unfold fO
 rw [List.flatMap_def,List.flatMap_def]
 congr 1
 refine List.map_congr_left fun r _=>?_
 rw [X4 (Nat.le_trans (il l r) hl) (Nat.le_trans (il m r) hm) (hc r)]
open Go.RowKit Go.MapKept
theorem zaa3 (p:aI) (t:Int):zaaz p t=some (aX p t):=by
 rw [zacb,q8];rfl
theorem zacZ (l:List aj) (t:Int) (hn:l.length<=300) (hr : ∀ f∈l,f.row.length<=1000000):zacj l t=some (xK (aS l t)):=by
 unfold zacj
 have e:(l.flatMap fun f=>if aX f.valid t=true then [f.row] else [])=aS l t:=by
  unfold aS
  induction l with
  | nil=>rfl
  | cons f l ih =>
   rw [ahw,ih (by simp at hn;omega) (fun g hg=>hr g (ahh _ hg)),List.filter_cons]
   split<;>rfl
 have hl:(aS l t).length<=l.length:=by unfold aS;rw [ag7];exact List.length_filter_le _ _
 rw [df (l:=l) (fun f=>if aX f.valid t=true then [f.row] else []) 5864062014805 ?_ ?_ (by unfold fuel;omega) [] (by rw [e];simp only [aho];omega)]
 ·rw [agU,e,ag0]
  unfold zabw
  dsimp only
  rw [FK _ (by omega) (fun r hrr=>by
   unfold aS at hrr
   obtain ⟨f,hf,rfl⟩:=aht.1 hrr
   exact hr f (List.mem_filter.1 hf).1)]
  rfl
 ·intro o i x hx ho
  have hi:=(agV.1 hx).1
  unfold zabA
  dsimp only
  rw [aV hx,agX,gn_ hx]
  simp only [agU]
  rw [zaa3,agU]
  by_cases hv:aX x.valid t=true
  ·rw [if_pos hv] at ho ⊢
   rw [hv,agX,show decide (o.length+1<=5864062014805)=true from agZ (by simpa using ho),agX,wrapN (by omega)]
  ·rw [if_neg hv]
   rw [Bool.not_eq_true] at hv
   rw [hv,agW,wrapN (by omega),ahs]
 ·intro o
  unfold zabA
  dsimp only
  rw [lF_,agW]
theorem zadg {a b:List (List Val)} (h:a.Perm b):xK a=xK b :=
 BA tCr_ (FM a) (FM b) ((lS a).trans (h.trans (lS b).symm))
noncomputable def ac' (l:List aj):List (List Val):=Classical.choose (J9 l)
theorem ry (l:List aj):fV l (ac' l):=(Classical.choose_spec (J9 l)).1
noncomputable def canon (l:List aj):List aj:=fO l (ac' l)
theorem I6 {l:List aj} {R:List (List Val)} (h:fV l R):fO l R=canon l:=by unfold canon;rw [fV.ext h (ry l)]
theorem dS {l:List aj} (hn:l.length<=300):(canon l).length<=l.length:=acS (ry l) hn
theorem zaau {l:List aj} (hn:l.length<=300) (t:Int):(aS (canon l) t).Perm (aS l t):=zaeI (ry l) hn t
theorem kg {l m:List aj} (hl:l.length<=300) (hm:m.length<=300) (hp : ∀ t,(aS l t).Perm (aS m t)):canon l=canon m:=abX (ry l) (ry m) hl hm hp
theorem zabL {l:List aj} (hn:l.length<=300):canon (canon l)=canon l:=kg (Nat.le_trans (dS hn) hn) hn (zaau hn)
theorem Yi {l:List aj} (hn:l.length<=300) {f:aj} (h:f∈canon l):aL f.valid=true /\ ∃ g∈l,g.row=f.row:=by
 unfold canon fO at h
 obtain ⟨r,hr,h⟩:=List.mem_flatMap.1 h
 obtain ⟨p,hp,rfl⟩:=aht.1 h
 obtain ⟨g,hg,_,e⟩:=((ry l).2 r).1 hr
 exact ⟨mg _ (Nat.le_trans (il l r) hn) p hp,g,hg,e⟩
theorem bW {l:List aj} (h:bM l):bM (canon l):=by
 have hn:l.length<=300:=by have:=h.1;omega
 refine ⟨Nat.le_trans (dS hn) h.1,fun f hf=>?_⟩
 obtain ⟨_,g,hg,e⟩:=Yi hn hf
 rw [<- e];exact h.2 g hg
theorem qY {l:List aj} (h:bM l):Dw l=some (canon l):=by
 obtain ⟨R,hR,e⟩:=VG l h
 rw [e,I6 hR]
theorem Qk {l:List aj} (hn:l.length<=300) (hr : ∀ f∈l,f.row.length<=1000000):kU l=some (canon l):=by
 obtain ⟨R,hR,e,_⟩:=Sq l hn hr
 rw [e,I6 hR]
theorem vC {l:List aj} (h:bM l) : ∀ f∈l,f.row.length<=1000000:=fun f hf=>by have:=(h.2 f hf).1;omega
theorem iK {l:List aj} (h:bM l):kU l=some (canon l):=Qk (by have:=h.1;omega) (vC h)
theorem d9 {l:List aj} (h:bM l):kM l l=some true:=Qs l (by have:=h.1;omega) (vC h)
theorem zacB {l:List aj} (h:bM l):zabS (canon l)=some true:=by
 unfold zabS
 rw [iK (bW h),agU,zabL (by have:=h.1;omega),d9 (bW h)];rfl
structure VH (r:dA):Prop where
 len:r.facts.length<=16
 kinds:r.kinds.length<=48
 per : ∀ f∈r.facts,aL f.valid=true
 row : ∀ f∈r.facts,f.row.length=r.kinds.length
 val : ∀ f∈r.facts, ∀ v∈f.row,vF v=true
theorem VH.fcts {r:dA} (h:VH r):bM r.facts:=⟨by have:=h.len;omega,fun f hf=>⟨by rw [h.row f hf];have:=h.kinds;omega,fun v hv=>(xL (h.val f hf v hv)).vok⟩⟩
theorem KV {row:List Val} {kinds:List Int} (hk:kinds.length<=1000000) : ∃ b,wS row kinds=some b/\(b=true->row.length=kinds.length /\ ∀ v∈row,vF v=true):=by
 by_cases he:row.length=kinds.length
 ·obtain ⟨b,hb⟩:=Yy row kinds (by omega)
  refine ⟨b,hb,fun hbt=>⟨he,?_⟩⟩
  subst hbt
  unfold wS at hb
  rw [show decide (((row.length:Nat):Int)≠((kinds.length:Nat):Int))=false from agY (by omega),agW] at hb
  have key : ∀ (n i:Nat),i<=row.length->row.length-i<n->(ax (j_ row kinds) n (i:Int)).bind l9=some true -> ∀ v∈row.drop i,vF v=true:=by
   intro n
   induction n with
   | zero=>intro i _ h;omega
   | succ n ih =>
    intro i hi hn hb v hv
    rw [ax] at hb
    by_cases hlt:i<row.length
    ·obtain ⟨x,hx⟩:=gol_ hlt
     obtain ⟨k,hk⟩:=gol_ (l:=kinds) (i:=i) (by omega)
     have h1:j_ row kinds (i:Int)=bif (!vF x) then some (.ret false) else bif decide (x.kind≠0) then bif decide (x.kind≠k) then some (.ret false) else some (.next ((i+1:Nat):Int)) else some (.next ((i+1:Nat):Int)):=by
      unfold j_
      dsimp only
      rw [aV hx,agX,gn_ hx,gn_ hk]
      simp only [agU]
      rw [lK,agU,wrapN (by omega)]
     have hd:row.drop i=x::row.drop (i+1):=by rw [ahp hlt,(agV.1 hx).2]
     rw [hd] at hv
     cases hvx:vF x with
     | false=>rw [h1,hvx] at hb;exact absurd (show (some false:Option Bool)=some true from hb) (by decide)
     | true =>
      have h2:j_ row kinds (i:Int)=some (.next ((i+1:Nat):Int)):=by
       rw [h1,hvx,Bool.not_true,agW]
       cases c1:decide (x.kind≠0) with
       | false=>rfl
       | true =>
        cases c2:decide (x.kind≠k) with
        | false=>rfl
        | true=>rw [h1,hvx,Bool.not_true,agW,c1,c2] at hb;exact absurd (show (some false:Option Bool)=some true from hb) (by decide)
      rw [h2] at hb
      rcases aha.1 hv with rfl|hv
      ·exact hvx
      ·exact ih (i+1) (by omega) (by omega) hb v hv
    ·rw [List.drop_eq_nil_of_le (by omega)] at hv;cases hv
  exact fun v hv=>key fuel 0 (ahe _) (by unfold fuel;omega) hb v (by rw [List.drop_zero];exact hv)
 ·refine ⟨false,?_,fun h=>by cases h⟩
  unfold wS
  rw [show decide (((row.length:Nat):Int)≠((kinds.length:Nat):Int))=true from agZ (by omega)];rfl
theorem KD {r:dA} (hl:r.facts.length<=1000) (hk:r.kinds.length<=48) : ∃ b,JU r=some b/\(b=true->(∀ f∈r.facts,aL f.valid=true)/\(∀ f∈r.facts,f.row.length=r.kinds.length) /\ ∀ f∈r.facts, ∀ v∈f.row,vF v=true):=by
 have key : ∀ (n i:Nat),i<=r.facts.length->r.facts.length-i<n -> ∃ b,(ax (nI r) n (i:Int)).bind (je r)=some b/\(b=true -> ∀ f∈r.facts.drop i,aL f.valid=true/\f.row.length=r.kinds.length /\ ∀ v∈f.row,vF v=true):=by
  intro n
  induction n with
  | zero=>intro i _ h;omega
  | succ n ih =>
   intro i hi hn
   rw [ax]
   by_cases hlt:i<r.facts.length
   ·obtain ⟨x,hx⟩:=gol_ hlt
    have hd:r.facts.drop i=x::r.facts.drop (i+1):=by rw [ahp hlt,(agV.1 hx).2]
    obtain ⟨b,hb,hb2⟩:=KV (row:=x.row) (kinds:=r.kinds) (by omega)
    have h1:nI r (i:Int)=bif !(aL x.valid) then some (.ret false) else bif !b then some (.ret false) else some (.next ((i+1:Nat):Int)):=by
     unfold nI
     dsimp only
     rw [aV hx,agX,gn_ hx,agU,eH,agU,hb,agU,wrapN (by omega)]
    rw [h1]
    cases hp:aL x.valid with
    | false=>exact ⟨false,rfl,fun h=>by cases h⟩
    | true =>
     cases b with
     | false=>exact ⟨false,rfl,fun h=>by cases h⟩
     | true =>
      obtain ⟨c,hc,hc2⟩:=ih (i+1) (by omega) (by omega)
      refine ⟨c,hc,fun h f hf=>?_⟩
      rw [hd] at hf
      rcases aha.1 hf with rfl|hf
      ·exact ⟨hp,hb2 rfl⟩
      ·exact hc2 h f hf
   ·have:i=r.facts.length:=by omega
    subst this
    have h1:nI r ((r.facts.length:Nat):Int)=some (.exit ((r.facts.length:Nat):Int)):=by
     unfold nI
     dsimp only
     rw [lF_,agW]
    rw [h1]
    obtain ⟨b,hb⟩:=YG r.kinds (by omega)
    have : ∃ c,je r (.inl ((r.facts.length:Nat):Int))=some c:=by
     unfold je
     dsimp only
     rw [hb]
     cases decide ((0:Int)<((r.kinds.length:Nat):Int))<;>cases decide (((r.kinds.length:Nat):Int)<=48)<;>exact ⟨_,rfl⟩
    obtain ⟨c,hc⟩:=this
    refine ⟨c,hc,fun _ f hf=>?_⟩
    rw [ahO] at hf;cases hf
 obtain ⟨b,hb,hb2⟩:=key fuel 0 (ahe _) (by unfold fuel;omega)
 refine ⟨b,hb,fun h=>?_⟩
 have:=hb2 h
 rw [List.drop_zero] at this
 exact ⟨fun f hf=>(this f hf).1,fun f hf=>(this f hf).2.1,fun f hf=>(this f hf).2.2⟩
def Em (e:Ex) (row:List Val):Val:=(kL fuel e row).getD mX
theorem val_ok {e:Ex} (h:fH fuel e) (row:List Val):kL fuel e row=some (Em e row)/\pK fuel e row=some (Em e row)/\vF (Em e row)=true:=by
 obtain ⟨v,h1,h2,h3⟩:=MW row fuel e h
 unfold Em
 rw [h1];exact ⟨rfl,h2,h3⟩
def oZ (e:Ex) (row:List Val):Bool:=decide (tF_ (Em e row)=2)
theorem UB {e:Ex} (h:fH fuel e) (row:List Val):jA e row=some (tF_ (Em e row)):=by
 unfold jA
 rw [(val_ok h row).2.1,agU,lH];rfl
theorem Da {e:Ex} (h:fH fuel e) (row:List Val):l8 e row=some (tF_ (Em e row)):=by
 unfold l8
 rw [(val_ok h row).1,agU,qy];rfl
theorem UO {e:Ex} (kinds:List Int) (h:fH fuel e) : ∃ n,Af e kinds=some n:=by
 obtain ⟨c,c1,_⟩:=Q5 kinds h
 unfold Af
 rw [c1,agU]
 cases decide (c.2≠0)<;>cases decide (c.1≠3)<;>cases decide (c.1≠0)<;>exact ⟨_,rfl⟩
def Az (e:Ex) (kinds:List Int):Int × Int:=(vW e kinds).getD (0,0)
theorem ZZ {e:Ex} (kinds:List Int) (h:fH fuel e):vW e kinds=some (Az e kinds)/\VL e kinds=some (Az e kinds):=by
 obtain ⟨c,c1,c2⟩:=Q5 kinds h
 unfold Az
 rw [c1];exact ⟨rfl,c2⟩
def qB (l:List Ex) (row:List Val):List Val:=l.map fun e=>Em e row
theorem Cf {l:List Ex} (hl:l.length<=100000) (he : ∀ e∈l,fH fuel e) (row:List Val):sG l row=some (qB l row):=by
 unfold sG
 rw [df (l:=l) (fun e=>[Em e row]) 4398046511104 ?_ ?_ (by unfold fuel;omega) [] (by rw [fo_];simp;omega)]
 ·rw [agU,ag0,fo_];rfl
 ·intro s i x hx hs
  have hi:=(agV.1 hx).1
  unfold xq
  dsimp only
  rw [aV hx,agX,gn_ hx,agU,(val_ok (he x (ag1 hx)) row).1,agU,wrapN (by omega),agZ (show s.length+1<=4398046511104 from hs),agX]
 ·intro s
  unfold xq
  dsimp only
  rw [lF_,agW]
theorem zaar (p:aI) (t:Int):aX p t=true↔aL p=true/\p.lo<=t/\t<p.hi:=by
 constructor
 ·intro h
  have hv:aL p=true:=by
   have h2:St.a_ (toP p) t=true:=h
   unfold St.a_ at h2
   rw [ahb,ahb] at h2
   exact h2.1.1
  obtain ⟨a,b,c⟩:=qW hv
  exact ⟨hv,(eO ⟨a,b,c⟩ t).1 h⟩
 ·rintro ⟨hv,h⟩
  obtain ⟨a,b,c⟩:=qW hv
  exact (eO ⟨a,b,c⟩ t).2 h
theorem fe (p:aI):aL p=true↔0<=p.lo/\p.lo<p.hi/\p.hi<=1099511627776:=by
 constructor
 ·exact qW
 ·rintro ⟨a,b,c⟩
  unfold aL
  rw [agZ a,agZ b,agZ c];rfl
def BL (p q:aI):Bool:=aL p&&(aL q&&(decide (p.lo<q.hi)&&decide (q.lo<p.hi)))
theorem Aq (p q:aI):BL p q=true↔aL p=true/\aL q=true/\p.lo<q.hi/\q.lo<p.hi:=by
 unfold BL
 generalize aL p=a
 generalize aL q=b
 rw [ahb,ahb,ahb,decide_eq_true_iff,decide_eq_true_iff]
def Ay (p q:aI):aI:=⟨max p.lo q.lo,min p.hi q.hi⟩
def EF (p q:aI):List aI:=(if p.lo<q.lo then [⟨p.lo,q.lo⟩] else [])++(if q.hi<p.hi then [⟨q.hi,p.hi⟩] else [])
theorem Jm {a b:Bool} (h:a=true↔b=true):a=b:=by
 cases a<;>cases b<;>simp_all
theorem zaeb {p q:aI} (h:BL p q=true) (t:Int):aX (Ay p q) t=(aX p t&&aX q t):=by
 obtain ⟨hp,hq,h1,h2⟩:=(Aq p q).1 h
 have hp':=(fe p).1 hp
 have hq':=(fe q).1 hq
 refine Jm ?_
 rw [ahb,zaar,zaar,zaar,fe,hp,hq]
 show ((0<=max p.lo q.lo/\max p.lo q.lo<min p.hi q.hi/\min p.hi q.hi<=1099511627776)/\max p.lo q.lo<=t/\t<min p.hi q.hi)↔_
 simp only [true_and]
 omega
theorem zadr {p q:aI} (h:BL p q=false) (t:Int):(aX p t&&aX q t)=false:=by
 cases hc:(aX p t&&aX q t) with
 | false=>rfl
 | true =>
  rw [ahb,zaar,zaar] at hc
  obtain ⟨⟨hp,h1,h2⟩,hq,h3,h4⟩:=hc
  have:BL p q=true:=(Aq p q).2 ⟨hp,hq,by omega,by omega⟩
  rw [h] at this;cases this
def mW (r:List Val) (ps:List aI):List aj:=ps.map fun p=>⟨r,p⟩
theorem zaa4 (f:aj) (l:List aj) (t:Int):aS (f::l) t=(if aX f.valid t=true then [f.row] else [])++aS l t:=by
 unfold aS
 rw [List.filter_cons]
 split<;>rfl
theorem zaa0 (r:List Val) (p:aI) (t:Int):aS [⟨r,p⟩] t=if aX p t=true then [r] else []:=by
 rw [zaa4];exact ahs _
theorem zaa7 (lo hi t:Int) (h:0<=lo/\lo<hi/\hi<=1099511627776):aX ⟨lo,hi⟩ t=true↔lo<=t/\t<hi:=by
 rw [zaar,fe]
 constructor
 ·exact fun x=>x.2
 ·exact fun x=>⟨h,x⟩
theorem zad3 {p q:aI} (h:BL p q=true) (r:List Val) (t:Int):aS (mW r (EF p q)) t=if (aX p t && !(aX q t))=true then [r] else []:=by
 obtain ⟨hp,hq,h1,h2⟩:=(Aq p q).1 h
 have hp':=(fe p).1 hp
 have hq':=(fe q).1 hq
 have e1:aS (mW r (if p.lo<q.lo then [(⟨p.lo,q.lo⟩:aI)] else [])) t=if p.lo<=t/\t<q.lo then [r] else []:=by
  by_cases hc:p.lo<q.lo
  ·rw [if_pos hc]
   show aS [⟨r,⟨p.lo,q.lo⟩⟩] t=_
   rw [zaa0]
   by_cases hd:p.lo<=t/\t<q.lo
   ·rw [if_pos hd,if_pos ((zaa7 _ _ _ (by omega)).2 hd)]
   ·rw [if_neg hd,if_neg (fun x=>hd ((zaa7 _ _ _ (by omega)).1 x))]
  ·rw [if_neg hc,if_neg (by omega)];rfl
 have e2:aS (mW r (if q.hi<p.hi then [(⟨q.hi,p.hi⟩:aI)] else [])) t=if q.hi<=t/\t<p.hi then [r] else []:=by
  by_cases hc:q.hi<p.hi
  ·rw [if_pos hc]
   show aS [⟨r,⟨q.hi,p.hi⟩⟩] t=_
   rw [zaa0]
   by_cases hd:q.hi<=t/\t<p.hi
   ·rw [if_pos hd,if_pos ((zaa7 _ _ _ (by omega)).2 hd)]
   ·rw [if_neg hd,if_neg (fun x=>hd ((zaa7 _ _ _ (by omega)).1 x))]
  ·rw [if_neg hc,if_neg (by omega)];rfl
 have e0:mW r (EF p q)=mW r (if p.lo<q.lo then [(⟨p.lo,q.lo⟩:aI)] else [])++mW r (if q.hi<p.hi then [(⟨q.hi,p.hi⟩:aI)] else []):=ag8
 rw [e0,zaaq,e1,e2]
 have hcp:aX p t=true↔p.lo<=t/\t<p.hi:=by rw [zaar];exact ⟨fun x=>x.2,fun x=>⟨hp,x⟩⟩
 have hcq:aX q t=true↔q.lo<=t/\t<q.hi:=by rw [zaar];exact ⟨fun x=>x.2,fun x=>⟨hq,x⟩⟩
 have hx:(aX p t && !(aX q t))=true↔(p.lo<=t/\t<p.hi) /\ ¬ (q.lo<=t/\t<q.hi):=by
  rw [ahb,Bool.not_eq_true', <- hcp, <- hcq,Bool.not_eq_true]
 by_cases ha:p.lo<=t/\t<q.lo
 ·rw [if_pos ha,if_neg (by omega),if_pos (hx.2 (by omega))];rfl
 ·by_cases hb:q.hi<=t/\t<p.hi
  ·rw [if_neg ha,if_pos hb,if_pos (hx.2 (by omega))];rfl
  ·rw [if_neg ha,if_neg hb,if_neg (fun x=>by have:=hx.1 x;omega)];rfl
def Ej (e:Ex) (p:aI) (f:aj):Bool:=BL f.valid p&&oZ e f.row
def iO (e:Ex) (p:aI) (f:aj):List aj:=if Ej e p f=true then mW f.row (EF f.valid p) else [f]
def D5 (e:Ex) (s:List Ex) (p:aI) (f:aj):List aj:=if Ej e p f=true then [⟨qB s f.row,Ay f.valid p⟩] else []
theorem zaaT (g:aj->List aj) (k:List Val->List (List Val)) (t:Int) (h : ∀ f:aj,aS (g f) t=if aX f.valid t=true then k f.row else []) : ∀ l:List aj,aS (l.flatMap g) t=(aS l t).flatMap k
 | []=>rfl
 | f::l=>by
  have e:(f::l).flatMap g=g f++l.flatMap g:=by simp
  rw [e,zaaq,zaa4,zaaT g k t h l,h f]
  by_cases hc:aX f.valid t=true
  ·rw [if_pos hc,if_pos hc,List.flatMap_append,show [f.row].flatMap k=k f.row by simp]
  ·rw [if_neg hc,if_neg hc];rfl
theorem zaeg (e:Ex) (p:aI) (t:Int) (f:aj):aS (iO e p f) t=if aX f.valid t=true then (if (aX p t&&oZ e f.row)=true then [] else [f.row]) else []:=by
 unfold iO
 by_cases hh:Ej e p f=true
 ·rw [if_pos hh]
  have h2:BL f.valid p=true/\oZ e f.row=true:=by unfold Ej at hh;rwa [ahb] at hh
  rw [zad3 h2.1,h2.2]
  cases aX f.valid t<;>cases aX p t<;>rfl
 ·rw [if_neg hh]
  have er:aS [f] t=if aX f.valid t=true then [f.row] else []:=zaa0 f.row f.valid t
  rw [er]
  cases hs:oZ e f.row
  ·rw [Bool.and_false];cases aX f.valid t<;>rfl
  ·have ho:BL f.valid p=false:=by
    cases ho:BL f.valid p with
    | false=>rfl
    | true=>exact absurd (by unfold Ej;rw [ho,hs];rfl) hh
   have:=zadr ho t
   cases h1:aX f.valid t with
   | false=>rfl
   | true=>rw [h1,ahr] at this;rw [this];rfl
theorem zadq (e:Ex) (p:aI) (t:Int) (g:List Val->List Val) (f:aj):aS (if Ej e p f=true then [(⟨g f.row,Ay f.valid p⟩:aj)] else []) t=if aX f.valid t=true then (if (aX p t&&oZ e f.row)=true then [g f.row] else []) else []:=by
 by_cases hh:Ej e p f=true
 ·rw [if_pos hh]
  have h2:BL f.valid p=true/\oZ e f.row=true:=by unfold Ej at hh;rwa [ahb] at hh
  rw [zaa0,zaeb h2.1,h2.2]
  cases aX f.valid t<;>cases aX p t<;>rfl
 ·rw [if_neg hh]
  cases hs:oZ e f.row
  ·rw [Bool.and_false];cases aX f.valid t<;>rfl
  ·have ho:BL f.valid p=false:=by
    cases ho:BL f.valid p with
    | false=>rfl
    | true=>exact absurd (by unfold Ej;rw [ho,hs];rfl) hh
   have:=zadr ho t
   cases h1:aX f.valid t with
   | false=>rfl
   | true=>rw [h1,ahr] at this;rw [this];rfl
def zabp (e:Ex) (p:aI) (t:Int) (r:List Val):Bool:=aX p t&&oZ e r
theorem zabM {α:Type} (c:α->Bool) : ∀ l:List α,(l.flatMap fun x=>if c x=true then [] else [x])=l.filter fun x => !(c x)
 | []=>rfl
 | x::l=>by
  have e:((x::l).flatMap fun x=>if c x=true then [] else [x])=(if c x=true then [] else [x])++l.flatMap fun x=>if c x=true then [] else [x]:=by simp
  rw [e,zabM c l,List.filter_cons]
  cases c x<;>rfl
theorem ja {α β:Type} (c:α->Bool) (g:α->β) : ∀ l:List α,(l.flatMap fun x=>if c x=true then [g x] else [])=(l.filter c).map g
 | []=>rfl
 | x::l=>by
  have e:((x::l).flatMap fun x=>if c x=true then [g x] else [])=(if c x=true then [g x] else [])++l.flatMap fun x=>if c x=true then [g x] else []:=by simp
  rw [e,ja c g l,List.filter_cons]
  cases c x<;>rfl
theorem zaas (e:Ex) (p:aI) (t:Int) (l:List aj):aS (l.flatMap (iO e p)) t=(aS l t).filter fun r => !(zabp e p t r):=by
 rw [zaaT (iO e p) (fun r=>if zabp e p t r=true then [] else [r]) t (zaeg e p t),zabM]
theorem zac5 (e:Ex) (s:List Ex) (p:aI) (t:Int) (l:List aj):aS (l.flatMap (D5 e s p)) t=((aS l t).filter (zabp e p t)).map (qB s):=by
 rw [zaaT (D5 e s p) (fun r=>if zabp e p t r=true then [qB s r] else []) t (zadq e p t (qB s)),ja]
def mo (rows:List (List Val)) (p:aI):List aj:=rows.map fun r=>⟨r,p⟩
theorem zaaD (p:aI) (t:Int) : ∀ rows:List (List Val),aS (mo rows p) t=if aX p t=true then rows else []
 | []=>by split<;>rfl
 | r::rows=>by
  show aS (⟨r,p⟩::mo rows p) t=_
  rw [zaa4,zaaD p t rows]
  cases aX p t<;>rfl
theorem bv {α β:Type} (g:α->List β) (k:Nat) (h : ∀ x,(g x).length<=k) : ∀ l:List α,(l.flatMap g).length<=k*l.length
 | []=>by simp
 | x::l=>by
  have e:(x::l).flatMap g=g x++l.flatMap g:=by simp
  rw [e,ag3,ahf,Nat.mul_succ]
  have:=bv g k h l
  have:=h x
  omega
theorem gV (e:Ex) (p:aI) (f:aj):(iO e p f).length<=2:=by
 unfold iO
 split
 ·unfold mW EF
  rw [ag7,ag3]
  split<;>split<;>simp
 ·simp
theorem GQ (e:Ex) (s:List Ex) (p:aI) (f:aj):(D5 e s p f).length<=1:=by unfold D5;split<;>simp
theorem Vi {e:Ex} {p:aI} {f x:aj} (h:x∈iO e p f):x.row=f.row:=by
 unfold iO at h
 split at h
 ·unfold mW at h
  obtain ⟨q,_,rfl⟩:=aht.1 h;rfl
 ·rw [ahz.1 h]
theorem VU {e:Ex} {s:List Ex} {p:aI} {f x:aj} (h:x∈D5 e s p f):x.row=qB s f.row:=by
 unfold D5 at h
 split at h
 ·rw [ahz.1 h]
 ·cases h
theorem VE {l:List aj} (h:l.length<=300) (hr : ∀ f∈l,f.row.length<=1000 /\ ∀ v∈f.row,VOK v):bM l:=⟨h,hr⟩
theorem o9 {l:List aj} (h:bM l) (hn:l.length<=100) (e:Ex) (p:aI):bM (l.flatMap (iO e p)):=by
 refine ⟨?_,?_⟩
 ·have:=bv _ 2 (gV e p) l;omega
 ·intro x hx
  obtain ⟨f,hf,hx⟩:=List.mem_flatMap.1 hx
  rw [Vi hx];exact h.2 f hf
theorem Oq {s:List Ex} (hs:s.length<=1000) (he : ∀ e∈s,fH fuel e) (row:List Val):(qB s row).length<=1000 /\ ∀ v∈qB s row,VOK v:=by
 refine ⟨by unfold qB;rw [ag7];exact hs,?_⟩
 intro v hv
 unfold qB at hv
 obtain ⟨x,hx,rfl⟩:=aht.1 hv
 exact (xL (val_ok (he x hx) row).2.2).vok
def Bt (e:Ex) (s:List Ex) (p:aI) (f:aj):List aj:=iO e p f++D5 e s p f
theorem rZ (e:Ex) (s:List Ex) (p:aI) (f:aj):(Bt e s p f).length<=3:=by
 unfold Bt;rw [ag3];have:=gV e p f;have:=GQ e s p f;omega
theorem EQ {α β:Type} (g k:α->List β) : ∀ l:List α,(l.flatMap fun x=>g x++k x).Perm (l.flatMap g++l.flatMap k)
 | [] => .refl _
 | x::l=>by
  have e1:((x::l).flatMap fun x=>g x++k x)=(g x++k x)++l.flatMap fun x=>g x++k x:=by simp
  have e2:(x::l).flatMap g=g x++l.flatMap g:=by simp
  have e3:(x::l).flatMap k=k x++l.flatMap k:=by simp
  rw [e1,e2,e3,ahk,ahk]
  refine List.Perm.append_left _ ?_
  refine ((EQ g k l).append_left _).trans ?_
  rw [<- ahk, <- ahk]
  exact List.Perm.append_right _ List.perm_append_comm
theorem FW {l m:List aj} (h:l.Perm m) (t:Int):(aS l t).Perm (aS m t):=(h.filter _).map _
theorem zaa2 (e:Ex) (s:List Ex) (p:aI) (t:Int) (l:List aj):(aS (l.flatMap (Bt e s p)) t).Perm (((aS l t).filter fun r => !(zabp e p t r))++((aS l t).filter (zabp e p t)).map (qB s)):=by
 refine (FW (EQ (iO e p) (D5 e s p) l) t).trans ?_
 rw [zaaq,zaas,zac5]
theorem zaeS {l:List aj} {rows:List (List Val)} (hn:l.length+rows.length<=300) (p:aI) (t:Int):(aS (canon (l++mo rows p)) t).Perm (aS l t++if aX p t=true then rows else []):=by
 refine (zaau (by unfold mo;rw [ag3,ag7];exact hn) t).trans ?_
 rw [zaaq,zaaD]
theorem zaeV {l:List aj} (hn:l.length<=100) (e:Ex) (p:aI) (t:Int):(aS (canon (l.flatMap (iO e p))) t).Perm ((aS l t).filter fun r => !(zabp e p t r)):=by
 have h1:=bv _ 2 (gV e p) l
 refine (zaau (by omega) t).trans ?_
 rw [zaas]
theorem zaeQ {l:List aj} (hn:l.length<=100) (e:Ex) (s:List Ex) (p:aI) (t:Int):(aS (canon (l.flatMap (Bt e s p))) t).Perm ((aS l t).map fun r=>if zabp e p t r=true then qB s r else r):=by
 have h1:=bv _ 3 (rZ e s p) l
 refine ((zaau (by omega) t).trans (zaa2 e s p t l)).trans ?_
 generalize aS l t=R
 have hf:=(List.filter_append_perm (zabp e p t) R).map fun r=>if zabp e p t r=true then qB s r else r
 refine .trans ?_ hf
 rw [ag8]
 refine List.perm_append_comm.trans (.of_eq ?_)
 congr 1
 ·exact List.map_congr_left fun r hr=>by rw [if_pos (List.mem_filter.1 hr).2]
 ·refine (List.map_id _).symm.trans (List.map_congr_left fun r hr=>?_)
  have:=(List.mem_filter.1 hr).2
  rw [if_neg (by intro e;rw [e] at this;cases this)];rfl
set_option maxHeartbeats 8000000
def K6 (a_p:aI) (a_q:aI):Option (Bool):=(UI a_p).bind fun r_1=>bif r_1 then (UI a_q).bind fun r_3=>bif r_3 then bif (decide (a_p.lo<a_q.hi)) then some (decide (a_q.lo<a_p.hi)) else
 some false else
 some false else
 some false
theorem X6 {a_p:aI} {a_q:aI} {r:Bool} (H:K6 a_p a_q=some r):Pure Tryz.prog 120 [.agg (bE a_p), .agg (bE a_q)] (.val (.one (.bool r))):=by
 unfold K6 at H
 refine po_ Tryz.func120 Tryz.ntmps120 ?_
 obtain ⟨r_1,c1,H⟩:=bd_ H
 replace c1:=CK c1
 rcases af H with ⟨q_2,H⟩|⟨q_2,H⟩
 ·obtain ⟨r_3,c2,H⟩:=bd_ H
  replace c2:=CK c2
  rcases af H with ⟨q_4,H⟩|⟨q_4,H⟩
  ·rcases af H with ⟨q_5,H⟩|⟨q_5,H⟩
   ·cases H
    exact aD
   cases H
   exact aD
  cases H
  exact aD
 cases H
 exact aD
def rU (a_p:aI) (a_q:aI):Option (aI × Bool):=(K6 a_p a_q).bind fun r_1=>bif (!r_1) then some ((⟨(0:Int),(0:Int)⟩:aI),false) else
 some ((⟨(CY a_p.lo a_q.lo),(Mg a_p.hi a_q.hi)⟩:aI),true)
theorem xn {a_p:aI} {a_q:aI} {r:aI × Bool} (H:rU a_p a_q=some r):Pure Tryz.prog 72 [.agg (bE a_p), .agg (bE a_q)] (.tup [.agg (bE r.1), .one (.bool r.2)]):=by
 unfold rU at H
 refine po_ Tryz.func72 Tryz.ntmps72 ?_
 obtain ⟨r_1,c1,H⟩:=bd_ H
 replace c1:=X6 c1
 rcases af H with ⟨q_2,H⟩|⟨q_2,H⟩
 ·cases H
  exact aD
 cases H
 exact aD
section
variable {P:Program} {ti:TI} {N:Nat} {ds:List (Option Tmp)} {K:Tm->List Ob->Prop} {rest:List Oper} {o:Oper} {T:Tm} {L:List Ob}
theorem agG (L:List Ob) (x:Ob) (hx:x.ren [L.length]=x):joinL [] L [x]=L++[x]:=by
 simp [joinL,join,jV,dR,mE,hx]
theorem co_ {g:FuncId} {asx:List AV} {es:List (List AC)} {n k d:Nat} (hd:o.dst=some d) (hN:Nat.blt d N=true) (hg:kJ ds T o.guard=some true) (hp:fJ ti (look T) o.op=some (g,asx)) (h:aQ P ti N ds K rest ((d, .one (.own es L.length))::T) (L++[.spare n k]))
  (hc:Run P g [] asx [.spare n k] (.one (.own es 0)):=by assumption) (ha:asx=asx.map (AV.ren []):=by rfl) (hb:KJ 0 asx=true:=by rfl):aQ P ti N ds K (o::rest) T L :=
 kN [] hd hN hg hp hc ha ⟨rfl,List.nodup_nil,fun i y hy=>by simp at hy,fun x hx=>(by cases hx),yL hb⟩ (by simp [AV.ren,SV.ren,dR,mE,nC]) (agG L _ rfl) h
theorem agt {g:FuncId} {asx:List AV} {es fs:List (List AC)} {n k m q d:Nat} (hd:o.dst=some d) (hN:Nat.blt d N=true) (hg:kJ ds T o.guard=some true) (hp:fJ ti (look T) o.op=some (g,asx)) (h:aQ P ti N ds K rest ((d, .tupS [.own es L.length, .own fs (L.length+1)])::T) (L++[.spare n k, .spare m q]))
  (hc:Run P g [] asx [.spare n k, .spare m q] (.tupS [.own es 0, .own fs 1]):=by assumption) (ha:asx=asx.map (AV.ren []):=by rfl) (hb:KJ 0 asx=true:=by rfl):aQ P ti N ds K (o::rest) T L :=
 kN [] hd hN hg hp hc ha ⟨rfl,List.nodup_nil,fun i y hy=>by simp at hy,fun x hx=>(by cases hx),yL hb⟩ (by simp [AV.ren,SV.ren,dR,mE,nC,List.range_succ]) (by simp [joinL,join,jV,dR,mE,Ob.ren]) h
theorem ae8 {g:FuncId} {asx:List AV} {es fs:List (List AC)} {n k m q d:Nat} (hd:o.dst=some d) (hN:Nat.blt d N=true) (hg:kJ ds T o.guard=some true) (hp:fJ ti (look T) o.op=some (g,asx)) (h:aQ P ti N ds K rest ((d, .tupS [.own es (L.length+2), .own fs (L.length+3)])::T) (L++[.dead, .dead, .spare n k, .spare m q]))
  (hc:Run P g [] asx [.dead, .dead, .spare n k, .spare m q] (.tupS [.own es 2, .own fs 3]):=by assumption) (ha:asx=asx.map (AV.ren []):=by rfl) (hb:KJ 0 asx=true:=by rfl):aQ P ti N ds K (o::rest) T L :=
 kN [] hd hN hg hp hc ha ⟨rfl,List.nodup_nil,fun i y hy=>by simp at hy,fun x hx=>(by cases hx),yL hb⟩ (by simp [AV.ren,SV.ren,dR,mE,nC,List.range_succ]) (by simp [joinL,join,jV,dR,mE,Ob.ren]) h
theorem ai_ {t e:TypeId} {x ix:Operand} {zs v:List SV} {k0:IntKind} {i:Int} {n k d:Nat} (hd:o.dst=some d) (hN:Nat.blt d N=true) {g0:Bool} (hg:kJ ds T o.guard=some g0) (ho:o.op = .index t x ix) (hx:look T x=some (.agg zs)) (hi:look T ix=some (.one (.c (.int k0 i))))
  (hk:ti.kind t=some (.array n e)) (ha:ti.agg e=some true) (hs:ti.size e=some k) (hl:zs.length=n*k) (h:aQ P ti N ds K rest ((d, .agg v)::T) L) (hv:List.take k (List.drop (i.toNat*k) zs)=v:=by assumption) (h0:0<=i:=by assumption) (h1:i<(n:Int):=by assumption) (hg1:g0=true:=by first|rfl|exact nU (by first|assumption|exact oD (by assumption))|exact nH (by first|assumption|exact oF (by assumption))):aQ P ti N ds K (o::rest) T L:=by
 subst hg1 hv
 have hm:i.toNat*k+k<=zs.length:=by
  rw [hl, <- Nat.succ_mul]
  exact ahv k (by omega)
 refine aZ (φ:=(0<=i/\i<(n:Int))/\i.toNat*k+k<=zs.length) hd hN hg ?_ ⟨⟨h0,h1⟩,hm⟩ h
 rw [ho]
 simp only [pop,hx,hi,rE,hk,ha,hs]
end
theorem afn {α β:Type} {l:List α} {f:α->List AC} {k:Nat} (hf : ∀ x,(f x).length=k) {i:Int} {q:α->Option β} {r:β} (H:(aH l i).bind q=some r) : ∃ x,0<=i/\i<((l.length:Nat):Int)/\List.take k (List.drop (i.toNat*k) (List.map SV.c (l.flatMap f)))=List.map SV.c (f x)/\q x=some r:=by
 obtain ⟨x,h,K⟩:=bd_ H
 obtain ⟨h0,h1⟩:=nE h
 have hlt:=(agV.1 h1).1
 refine ⟨x,h0,by omega,?_,K⟩
 rw [<- List.map_drop, <- List.map_take]
 congr 1
 have key : ∀ (l:List α) (j:Nat) (x:α),l[j]?=some x->List.take k (List.drop (j*k) (l.flatMap f))=f x:=by
  intro l
  induction l with
  | nil=>intro j x h;simp at h
  | cons y l ih =>
   intro j x h
   cases j with
   | zero =>
    simp at h;subst h
    rw [Nat.zero_mul,List.drop_zero,ahw,List.take_append_of_le_length (by rw [hf];exact ag' _),ahy (by rw [hf];exact ag' _)]
   | succ j =>
    rw [ahw,Nat.succ_mul,Nat.add_comm (j*k) k, <- List.drop_drop,List.drop_append_of_le_length (by rw [hf];exact ag' _),List.drop_of_length_le (show (f y).length<=k by rw [hf];exact ag' _),ag0]
    exact ih j x (by simpa using h)
 exact key l _ x h1
theorem gx_ {p q:Prop} (k:q) (h:Bx q->p:=by
 intro hq
 repeat' (first|refine co_ rfl rfl rfl rfl ?_|refine agt rfl rfl rfl rfl ?_|refine ae8 rfl rfl rfl rfl ?_|refine p_ rfl rfl rfl rfl rfl ?_|refine st_nil ?_|refine x_ rfl rfl rfl rfl rfl rfl rfl rfl ?_|refine l_ rfl rfl rfl rfl ?_|refine s_ rfl rfl rfl ?_|refine t_ rfl rfl rfl rfl ?_|refine k_ rfl rfl rfl ?_|refine k0_ rfl rfl ?_|refine c_ rfl rfl rfl rfl ?_|refine pick_t rfl rfl rfl rfl rfl rfl rfl ?_|refine pick_f rfl rfl rfl rfl rfl rfl rfl ?_|refine aw_seq ?_|refine aw_region ay _ rfl ?_|refine aw_drawn2 bf _ rfl mixed (by decide +kernel) ?_|refine aw_condT rfl ?_|refine aw_condF rfl ?_|refine aw_block ?_|refine aw_exit ?_|refine aw_ret ?_|refine aw_skip ?_|rw [ag7]|rw [mn_norm]|rw [mx_norm])
 exact hq.out):p:=h ⟨k⟩
theorem XY {p:Prop} (h:p:=by
 refine gx_ ?_
 refine bO (bZ rfl ?_ ?_)
 ·repeat' (first|exact trivial|rfl|exact ag5 rfl|omega|apply And.intro)
 ·first|rfl|(simp only [ag8,ag6,ag_,ag0]<;>rfl)):p:=h
theorem ga_ {p q:Prop} (k:q) (h:Bx q->p:=by
 intro hq
 repeat' (first|refine ai_ rfl rfl rfl rfl rfl rfl rfl rfl rfl rfl ?_|refine gs_ ?_|fail)
 exact hq.out):p:=h ⟨k⟩
theorem agf {p:Prop} (h:p:=by
 refine ga_ ?_
 refine bO (bZ rfl ?_ ?_)
 ·repeat' (first|exact trivial|rfl|exact ag5 rfl|omega|apply And.intro)
 ·first|rfl|(simp only [ag8,ag6,ag_,ag0]<;>rfl)):p:=h
theorem acT {p:Prop} (h:p:=by repeat' (first|refine ⟨?_,?_⟩|exact trivial|exact lt_|exact p8 (by rfl)|omega)):p:=h
theorem adX {p:Prop} (h:p:=by
 refine bF ?_
 first
  | exact ⟨.inl rfl,⟨.inl ⟨_,rfl,rfl⟩,⟨[],rfl⟩,ahe _,o8 rfl,p8 rfl⟩⟩
  | exact ⟨.inr rfl,⟨.inl ⟨_,rfl,rfl⟩,⟨[],rfl⟩,ahe _,o8 rfl,p8 rfl⟩⟩):p:=h
set_option maxHeartbeats 8000000
noncomputable section
def xW (a_p:aI) (r_3:aI × Bool):((List aI) × Int)->Option (Step ((List aI) × Int) ((List aI))):=fun s=>match s with
 | (out_5,v_6)=>bif (decide (v_6<(2:Int))) then (aH ([(⟨a_p.lo,r_3.1.lo⟩:aI),(⟨r_3.1.hi,a_p.hi⟩:aI)]:List aI) v_6).bind fun x_8=>bif (!(dL [.c (.int .i64 x_8.lo), .c (.int .i64 x_8.hi)] [.c (.int .i64 (0:Int)), .c (.int .i64 (0:Int))])) then (UI x_8).bind fun r_10=>bif r_10 then bif (decide (out_5.length+1<=8796093022208)) then (some (.next ((out_5++[x_8]),(IntKind.i64.wrap (v_6+(1:Int)))))) else none else
 some (.next (out_5,(IntKind.i64.wrap (v_6+(1:Int))))) else
 some (.next (out_5,(IntKind.i64.wrap (v_6+(1:Int))))) else
 some (.exit (out_5,v_6))
def yY:Sum ((List aI) × Int) ((List aI))->Option (((List aI)))
 | .inl (out_5,v_6)=>some out_5
 | .inr q=>some q
def xP (a_p:aI) (a_q:aI):Option ((List aI)):=(UI a_p).bind fun r_1=>bif (!r_1) then some [] else
 (rU a_p a_q).bind fun r_3=>bif (!r_3.2) then some [a_p] else
 (ax (xW a_p r_3) fuel ([],(0:Int))).bind (yY)
theorem uU {a_p:aI} {a_q:aI} {r:(List aI)} (H:xP a_p a_q=some r):Pure Tryz.prog 46 [.agg (bE a_p), .agg (bE a_q)] (.val (.one (.lst (r.map bE)))):=by
 unfold xP at H
 refine po_ Tryz.func46 Tryz.ntmps46 ?_
 obtain ⟨r_1,c1,H⟩:=bd_ H
 replace c1:=CK c1
 rcases af H with ⟨q_2,H⟩|⟨q_2,H⟩
 ·cases H
  exact aD
 obtain ⟨r_3,c2,H⟩:=bd_ H
 replace c2:=xn c2
 rcases af H with ⟨q_4,H⟩|⟨q_4,H⟩
 ·cases H
  exact aD
 refine bF ?_
 refine bX 8 2 rfl ?_
 refine alM_ (fun s:(List aI) × Int=>match s with|(out_5,v_6)=>[(8, .one (.own (out_5.map bE) 4)),(35, .agg [.c (.int .i64 a_p.lo), .c (.int .i64 r_3.1.lo), .c (.int .i64 r_3.1.hi), .c (.int .i64 a_p.hi)]),(36, .one (.c (.int .i64 v_6)))]) (fun s=>match s with|(out_5,v_6)=>[.box [.c (.int .i64 a_p.lo), .c (.int .i64 a_p.hi)], .box [.c (.int .i64 a_q.lo), .c (.int .i64 a_q.hi)], .box [.c (.int .i64 r_3.1.lo), .c (.int .i64 r_3.1.hi)], .box [.c (.int .i64 a_p.lo), .c (.int .i64 r_3.1.lo), .c (.int .i64 r_3.1.hi), .c (.int .i64 a_p.hi)], .spare out_5.length 2]) H (fun _=>ahe _)
  (fm_ dh [] rfl acT dw) ?_
 rintro ⟨out_5,v_6⟩ st1 hb1 hk1
 unfold xW at hb1
 dsimp only at hb1 ⊢
 rcases af hb1 with ⟨q_7,hb1⟩|⟨q_7,hb1⟩
 ·obtain ⟨x_8,i3,i3b,i3v,hb1⟩:=afn (f:=bE) (k:=2) (fun _=>rfl) hb1
  replace i3b:v_6<((2:Nat):Int):=i3b
  replace i3v:List.take 2 (List.drop ((v_6).toNat*2) [SV.c (.int .i64 a_p.lo),SV.c (.int .i64 r_3.1.lo),SV.c (.int .i64 r_3.1.hi),SV.c (.int .i64 a_p.hi)])=[SV.c (.int .i64 x_8.lo),SV.c (.int .i64 x_8.hi)]:=i3v
  rcases af hb1 with ⟨q_9,hb1⟩|⟨q_9,hb1⟩
  ·obtain ⟨r_10,c4,hb1⟩:=bd_ hb1
   replace c4:=CK c4
   rcases af hb1 with ⟨q_11,hb1⟩|⟨q_11,hb1⟩
   ·obtain ⟨g5,hb1⟩:=aG hb1
    cases hb1
    refine ga_ ?_
    exact ⟨_,rfl,fm_ lC [_] lD acT dw⟩
   cases hb1
   refine ga_ ?_
   exact ⟨_,rfl,fm_ lC [_] lD acT dw⟩
  cases hb1
  refine ga_ ?_
  exact ⟨_,rfl,fm_ lC [_] lD acT dw⟩
 cases hb1
 have hx1:yY (.inl (out_5,v_6))=some _:=hk1
 unfold yY at hx1
 dsimp only at hx1
 cases hx1
 exact agf
end
set_option maxHeartbeats 8000000
noncomputable section
def dQ (a_row:(List Val)) (a_l:(List aI)):((List aj) × Int)->Option (Step ((List aj) × Int) ((List aj))):=fun s=>match s with
 | (out_1,v_2)=>bif (decide (v_2<((a_l.length:Nat):Int))) then (aH a_l v_2).bind fun x_4=>bif (decide (out_1.length+1<=3518437208883)) then (some (.next ((out_1++[(⟨a_row,x_4⟩:aj)]),(IntKind.i64.wrap (v_2+(1:Int)))))) else none else
 some (.exit (out_1,v_2))
def cz:Sum ((List aj) × Int) ((List aj))->Option (((List aj)))
 | .inl (out_1,v_2)=>some out_1
 | .inr q=>some q
def bu (a_row:(List Val)) (a_l:(List aI)):Option ((List aj)):=(ax (dQ a_row a_l) fuel ([],(0:Int))).bind (cz)
theorem zaa1 {a_row:(List Val)} {a_l:(List aI)} {r:(List aj)} (H:bu a_row a_l=some r):Pure Tryz.prog 40 [.one (.lst (a_row.map cV)), .one (.lst (a_l.map bE))] (.val (.one (.lst (r.map aJ)))):=by
 unfold bu at H
 refine po_ Tryz.func40 Tryz.ntmps40 ?_
 refine bF ?_
 refine bX 5 3 rfl ?_
 refine alM_ (fun s:(List aj) × Int=>match s with|(out_1,v_2)=>[(0, .one (.c (.lst (a_row.map cV)))),(5, .one (.own (out_1.map aJ) 0)),(8, .one (.c (.lst (a_l.map bE)))),(9, .one (.c (.int .i64 ((a_l.length:Nat):Int)))),(10, .one (.c (.int .i64 v_2)))]) (fun s=>match s with|(out_1,v_2)=>[.spare out_1.length 3]) H (fun _=>ahe _)
  (fm_ dh [] rfl bH dw) ?_
 rintro ⟨out_1,v_2⟩ st1 hb1 hk1
 unfold dQ at hb1
 dsimp only at hb1 ⊢
 rcases af hb1 with ⟨q_3,hb1⟩|⟨q_3,hb1⟩
 ·obtain ⟨x_4,i1z,i1,i1x,hb1⟩:=aY (f:=bE) hb1
  obtain ⟨g2,hb1⟩:=aG hb1
  cases hb1
  refine bF ?_
  exact ⟨_,rfl,fm_ lC [_] lD bH dw⟩
 cases hb1
 have hx1:cz (.inl (out_1,v_2))=some _:=hk1
 unfold cz at hx1
 dsimp only at hx1
 cases hx1
 exact aD
theorem dY {a_row:(List Val)} {a_l:(List aI)} {r:(List aj)} (H:bu a_row a_l=some r):Run Tryz.prog 40 [] [.one (.c (.lst (a_row.map cV))), .one (.c (.lst (a_l.map bE)))] [.spare r.length 3] (.one (.own (r.map aJ) 0)):=by
 unfold bu at H
 refine bN tab_ok Tryz.func40 rfl rfl Tryz.ntmps40 (by simp) ?_
 simp only [kP]
 refine bF ?_
 refine bX 5 3 rfl ?_
 refine alM_ (fun s:(List aj) × Int=>match s with|(out_1,v_2)=>[(0, .one (.c (.lst (a_row.map cV)))),(5, .one (.own (out_1.map aJ) 0)),(8, .one (.c (.lst (a_l.map bE)))),(9, .one (.c (.int .i64 ((a_l.length:Nat):Int)))),(10, .one (.c (.int .i64 v_2)))]) (fun s=>match s with|(out_1,v_2)=>[.spare out_1.length 3]) H (fun _=>ahe _)
  (fm_ dh [] rfl bH dw) ?_
 rintro ⟨out_1,v_2⟩ st1 hb1 hk1
 unfold dQ at hb1
 dsimp only at hb1 ⊢
 rcases af hb1 with ⟨q_3,hb1⟩|⟨q_3,hb1⟩
 ·obtain ⟨x_4,i1z,i1,i1x,hb1⟩:=aY (f:=bE) hb1
  obtain ⟨g2,hb1⟩:=aG hb1
  cases hb1
  refine bF ?_
  exact ⟨_,rfl,fm_ lC [_] lD bH dw⟩
 cases hb1
 have hx1:cz (.inl (out_1,v_2))=some _:=hk1
 unfold cz at hx1
 dsimp only at hx1
 cases hx1
 exact adX
def eX (a_f:aj) (a_e:Ex) (a_p:aI):Option (aI × Bool):=(rU a_f.valid a_p).bind fun r_1=>bif r_1.2 then (jA a_e a_f.row).bind fun r_3=>some (r_1.1,(decide (r_3=(2:Int)))) else
 some (r_1.1,false)
theorem fE {a_f:aj} {a_e:Ex} {a_p:aI} {r:aI × Bool} (H:eX a_f a_e a_p=some r):Pure Tryz.prog 45 [.agg (aJ a_f), .agg (tE a_e), .agg (bE a_p)] (.tup [.agg (bE r.1), .one (.bool r.2)]):=by
 unfold eX at H
 rw [aC a_e]
 refine po_ Tryz.func45 Tryz.ntmps45 ?_
 obtain ⟨r_1,c1,H⟩:=bd_ H
 replace c1:=xn c1
 rcases af H with ⟨q_2,H⟩|⟨q_2,H⟩
 ·obtain ⟨r_3,c2,H⟩:=bd_ H
  replace c2:=qI c2
  try simp only [ag8,ag6,ag_,ag0,aC] at c2
  cases H
  exact aD
 cases H
 exact aD
def zabc (a_l:(List (List Val))) (a_f:(List Val)->Option ((List aj))):((List aj) × Int)->Option (Step ((List aj) × Int) ((List aj))):=fun s=>match s with
 | (out_1,v_2)=>bif (decide (v_2<((a_l.length:Nat):Int))) then (aH a_l v_2).bind fun x_4=>(a_f x_4).bind fun r_5=>bif (decide (out_1.length+r_5.length<=3518437208883)) then (some (.next ((out_1++r_5),(IntKind.i64.wrap (v_2+(1:Int)))))) else none else
 some (.exit (out_1,v_2))
def zabK:Sum ((List aj) × Int) ((List aj))->Option (((List aj)))
 | .inl (out_1,v_2)=>some out_1
 | .inr q=>some q
def zab8 (a_l:(List (List Val))) (a_f:(List Val)->Option ((List aj))):Option ((List aj)):=(ax (zabc a_l a_f) fuel ([],(0:Int))).bind (zabK)
theorem zadw {a_l:(List (List Val))} {a_f:(List Val)->Option ((List aj))} {r:(List aj)} {F_a_f:FuncId} {caps_a_f:List AC} (hf_a_f : ∀ (y0:(List Val)) (r:(List aj)),a_f y0=some r->Pure Tryz.prog F_a_f ([.one (.lst (y0.map cV))]++caps_a_f.map .one) (.val (.one (.lst (r.map aJ))))) (H:zab8 a_l a_f=some r):Pure Tryz.prog 38 [.one (.lst (a_l.map (fun x=>[AC.lst (x.map cV)]))), .one (.fn F_a_f caps_a_f)] (.val (.one (.lst (r.map aJ)))):=by
 unfold zab8 at H
 refine po_ Tryz.func38 Tryz.ntmps38 ?_
 refine bF ?_
 refine bX 5 3 rfl ?_
 refine alM_ (fun s:(List aj) × Int=>match s with|(out_1,v_2)=>[(1, .one (.c (.fn F_a_f caps_a_f))),(5, .one (.own (out_1.map aJ) 0)),(8, .one (.c (.lst (a_l.map (fun x=>[AC.lst (x.map cV)]))))),(9, .one (.c (.int .i64 ((a_l.length:Nat):Int)))),(10, .one (.c (.int .i64 v_2)))]) (fun s=>match s with|(out_1,v_2)=>[.spare out_1.length 3]) H (fun _=>ahe _)
  (fm_ dh [] rfl bH dw) ?_
 rintro ⟨out_1,v_2⟩ st1 hb1 hk1
 unfold zabc at hb1
 dsimp only at hb1 ⊢
 rcases af hb1 with ⟨q_3,hb1⟩|⟨q_3,hb1⟩
 ·obtain ⟨x_4,i1z,i1,i1x,hb1⟩:=aY (f:=(fun x=>[AC.lst (x.map cV)])) hb1
  obtain ⟨r_5,c2,hb1⟩:=bd_ hb1
  replace c2:=hf_a_f _ _ c2
  try simp only [ag8,ag6,ag_,ag0,aC] at c2
  obtain ⟨g3,hb1⟩:=aG hb1
  cases hb1
  refine bF ?_
  exact ⟨_,rfl,fm_ lC [] lD bH dw⟩
 cases hb1
 have hx1:zabK (.inl (out_1,v_2))=some _:=hk1
 unfold zabK at hx1
 dsimp only at hx1
 cases hx1
 exact aD
def jg (a_l:(List Ex)) (a_f:Ex->Option ((List Val))):((List Val) × Int)->Option (Step ((List Val) × Int) ((List Val))):=fun s=>match s with
 | (out_1,v_2)=>bif (decide (v_2<((a_l.length:Nat):Int))) then (aH a_l v_2).bind fun x_4=>(a_f x_4).bind fun r_5=>bif (decide (out_1.length+r_5.length<=4398046511104)) then (some (.next ((out_1++r_5),(IntKind.i64.wrap (v_2+(1:Int)))))) else none else
 some (.exit (out_1,v_2))
def gX:Sum ((List Val) × Int) ((List Val))->Option (((List Val)))
 | .inl (out_1,v_2)=>some out_1
 | .inr q=>some q
def mr (a_l:(List Ex)) (a_f:Ex->Option ((List Val))):Option ((List Val)):=(ax (jg a_l a_f) fuel ([],(0:Int))).bind (gX)
theorem vB {a_l:(List Ex)} {a_f:Ex->Option ((List Val))} {r:(List Val)} {F_a_f:FuncId} {caps_a_f:List AC} (hf_a_f : ∀ (y0:Ex) (r:(List Val)),a_f y0=some r->Pure Tryz.prog F_a_f ([.agg (tE y0)]++caps_a_f.map .one) (.val (.one (.lst (r.map cV))))) (H:mr a_l a_f=some r):Pure Tryz.prog 50 [.one (.lst (a_l.map tE)), .one (.fn F_a_f caps_a_f)] (.val (.one (.lst (r.map cV)))):=by
 unfold mr at H
 refine po_ Tryz.func50 Tryz.ntmps50 ?_
 refine bF ?_
 refine bX 5 3 rfl ?_
 refine alM_ (fun s:(List Val) × Int=>match s with|(out_1,v_2)=>[(1, .one (.c (.fn F_a_f caps_a_f))),(5, .one (.own (out_1.map cV) 0)),(8, .one (.c (.lst (a_l.map tE)))),(9, .one (.c (.int .i64 ((a_l.length:Nat):Int)))),(10, .one (.c (.int .i64 v_2)))]) (fun s=>match s with|(out_1,v_2)=>[.spare out_1.length 3]) H (fun _=>ahe _)
  (fm_ dh [] rfl bH dw) ?_
 rintro ⟨out_1,v_2⟩ st1 hb1 hk1
 unfold jg at hb1
 dsimp only at hb1 ⊢
 rcases af hb1 with ⟨q_3,hb1⟩|⟨q_3,hb1⟩
 ·obtain ⟨x_4,i1z,i1,i1x,hb1⟩:=aY (f:=tE) hb1
  simp only [ag8,ag6,ag_,ag0,aC] at i1x
  obtain ⟨r_5,c2,hb1⟩:=bd_ hb1
  replace c2:=hf_a_f _ _ c2
  try simp only [ag8,ag6,ag_,ag0,aC] at c2
  obtain ⟨g3,hb1⟩:=aG hb1
  cases hb1
  refine bF ?_
  exact ⟨_,rfl,fm_ lC [_] lD bH dw⟩
 cases hb1
 have hx1:gX (.inl (out_1,v_2))=some _:=hk1
 unfold gX at hx1
 dsimp only at hx1
 cases hx1
 exact aD
def jf (a_l:(List aj)) (a_f:aj->Option ((List aj))):((List aj) × Int)->Option (Step ((List aj) × Int) ((List aj))):=fun s=>match s with
 | (out_1,v_2)=>bif (decide (v_2<((a_l.length:Nat):Int))) then (aH a_l v_2).bind fun x_4=>(a_f x_4).bind fun r_5=>bif (decide (out_1.length+r_5.length<=3518437208883)) then (some (.next ((out_1++r_5),(IntKind.i64.wrap (v_2+(1:Int)))))) else none else
 some (.exit (out_1,v_2))
def h_:Sum ((List aj) × Int) ((List aj))->Option (((List aj)))
 | .inl (out_1,v_2)=>some out_1
 | .inr q=>some q
def nJ (a_l:(List aj)) (a_f:aj->Option ((List aj))):Option ((List aj)):=(ax (jf a_l a_f) fuel ([],(0:Int))).bind (h_)
theorem uN {a_l:(List aj)} {a_f:aj->Option ((List aj))} {r:(List aj)} {F_a_f:FuncId} {caps_a_f:List AC} (hf_a_f : ∀ (y0:aj) (r:(List aj)),a_f y0=some r->Pure Tryz.prog F_a_f ([.agg (aJ y0)]++caps_a_f.map .one) (.val (.one (.lst (r.map aJ))))) (H:nJ a_l a_f=some r):Pure Tryz.prog 43 [.one (.lst (a_l.map aJ)), .one (.fn F_a_f caps_a_f)] (.val (.one (.lst (r.map aJ)))):=by
 unfold nJ at H
 refine po_ Tryz.func43 Tryz.ntmps43 ?_
 refine bF ?_
 refine bX 5 3 rfl ?_
 refine alM_ (fun s:(List aj) × Int=>match s with|(out_1,v_2)=>[(1, .one (.c (.fn F_a_f caps_a_f))),(5, .one (.own (out_1.map aJ) 0)),(8, .one (.c (.lst (a_l.map aJ)))),(9, .one (.c (.int .i64 ((a_l.length:Nat):Int)))),(10, .one (.c (.int .i64 v_2)))]) (fun s=>match s with|(out_1,v_2)=>[.spare out_1.length 3]) H (fun _=>ahe _)
  (fm_ dh [] rfl bH dw) ?_
 rintro ⟨out_1,v_2⟩ st1 hb1 hk1
 unfold jf at hb1
 dsimp only at hb1 ⊢
 rcases af hb1 with ⟨q_3,hb1⟩|⟨q_3,hb1⟩
 ·obtain ⟨x_4,i1z,i1,i1x,hb1⟩:=aY (f:=aJ) hb1
  obtain ⟨r_5,c2,hb1⟩:=bd_ hb1
  replace c2:=hf_a_f _ _ c2
  try simp only [ag8,ag6,ag_,ag0,aC] at c2
  obtain ⟨g3,hb1⟩:=aG hb1
  cases hb1
  refine bF ?_
  exact ⟨_,rfl,fm_ lC [_] lD bH dw⟩
 cases hb1
 have hx1:h_ (.inl (out_1,v_2))=some _:=hk1
 unfold h_ at hx1
 dsimp only at hx1
 cases hx1
 exact aD
def zabv (a_row:(List Val)) (v_0:aI):Option ((List aj)):=(bu a_row [v_0]).bind fun r_1=>some r_1
theorem zacJ {a_row:(List Val)} {v_0:aI} {r:(List aj)} (H:zabv a_row v_0=some r):Pure Tryz.prog 39 [.one (.lst (a_row.map cV)), .one (.ref [.int .i64 v_0.lo, .int .i64 v_0.hi])] (.val (.one (.lst (r.map aJ)))):=by
 unfold zabv at H
 refine po_ Tryz.func39 Tryz.ntmps39 ?_
 obtain ⟨r_1,c1,H⟩:=bd_ H
 replace c1:=zaa1 c1
 try simp only [ag8,ag6,ag_,ag0,aC] at c1
 cases H
 exact aD
def zaaL (a_l:(List aj)) (a_rows:(List (List Val))) (a_p:aI):Option ((List aj)):=(zab8 a_rows (fun x0=>zabv x0 a_p)).bind fun r_1=>bif (decide (a_l.length<=3518437208883)) then (bif (decide (a_l.length+r_1.length<=3518437208883)) then ((Dw (a_l++r_1)).bind fun r_2=>some r_2) else none) else none
theorem zaaG {a_l:(List aj)} {a_rows:(List (List Val))} {a_p:aI} {r:(List aj)} (H:zaaL a_l a_rows a_p=some r):Pure Tryz.prog 12 [.one (.lst (a_l.map aJ)), .one (.lst (a_rows.map (fun x=>[AC.lst (x.map cV)]))), .agg (bE a_p)] (.val (.one (.lst (r.map aJ)))):=by
 unfold zaaL at H
 refine po_ Tryz.func12 Tryz.ntmps12 ?_
 repeat' (first|refine gs0_ ?_|fail)
 refine aw_region tab_ok _ rfl ?_
 repeat' (first|refine gs0_ ?_|fail)
 refine bI 0 (by rfl) (by rfl) ?_
 simp only [ag6,ag_,Md,Ns,OI,iF,List.drop,if_true,List.set]
 obtain ⟨r_1,c1,H⟩:=bd_ H
 replace c1:=zadw (F_a_f:=39) (caps_a_f:=[.ref [.int .i64 a_p.lo, .int .i64 a_p.hi]]) (fun x0 r h=>zacJ h) c1
 try simp only [ag8,ag6,ag_,ag0,aC] at c1
 obtain ⟨g2,H⟩:=aG H
 obtain ⟨g3,H⟩:=aG H
 obtain ⟨r_2,c4,H⟩:=bd_ H
 replace c4:=GN c4
 try simp only [ag8,ag6,ag_,ag0,aC] at c4
 cases H
 exact aD
def zabb (a_f:aj) (v_0:Ex) (v_1:aI):Option ((List aj)):=(eX a_f v_0 v_1).bind fun r_1=>bif (!r_1.2) then (bu a_f.row [a_f.valid]).bind fun r_3=>some r_3 else
 (xP a_f.valid r_1.1).bind fun r_4=>(bu a_f.row r_4).bind fun r_5=>some r_5
theorem zacG {a_f:aj} {v_0:Ex} {v_1:aI} {r:(List aj)} (H:zabb a_f v_0 v_1=some r):Pure Tryz.prog 44 [.agg (aJ a_f), .one (.ref [.int .i64 v_0.op, .int .i64 v_0.int, .int .i64 v_0.v.kind, .int .i64 v_0.v.int, .str v_0.v.text, .str v_0.nm, .lst (v_0.args.map tE)]), .one (.ref [.int .i64 v_1.lo, .int .i64 v_1.hi])] (.val (.one (.lst (r.map aJ)))):=by
 unfold zabb at H
 refine po_ Tryz.func44 Tryz.ntmps44 ?_
 obtain ⟨r_1,c1,H⟩:=bd_ H
 replace c1:=fE c1
 try simp only [ag8,ag6,ag_,ag0,aC] at c1
 rcases af H with ⟨q_2,H⟩|⟨q_2,H⟩
 ·obtain ⟨r_3,c2,H⟩:=bd_ H
  replace c2:=zaa1 c2
  try simp only [ag8,ag6,ag_,ag0,aC] at c2
  cases H
  exact aD
 obtain ⟨r_4,c3,H⟩:=bd_ H
 replace c3:=uU c3
 obtain ⟨r_5,c4,H⟩:=bd_ H
 replace c4:=zaa1 c4
 cases H
 exact aD
def zaay (a_l:(List aj)) (a_e:Ex) (a_p:aI):Option ((List aj)):=(nJ a_l (fun x0=>zabb x0 a_e a_p)).bind fun r_1=>(Dw r_1).bind fun r_2=>some r_2
theorem zaaw {a_l:(List aj)} {a_e:Ex} {a_p:aI} {r:(List aj)} (H:zaay a_l a_e a_p=some r):Pure Tryz.prog 14 [.one (.lst (a_l.map aJ)), .agg (tE a_e), .agg (bE a_p)] (.val (.one (.lst (r.map aJ)))):=by
 unfold zaay at H
 rw [aC a_e]
 refine po_ Tryz.func14 Tryz.ntmps14 ?_
 repeat' (first|refine gs0_ ?_|fail)
 refine aw_region tab_ok _ rfl ?_
 repeat' (first|refine gs0_ ?_|fail)
 refine bI 0 (by rfl) (by rfl) ?_
 simp only [ag6,ag_,Md,Ns,OI,iF,List.drop,if_true,List.set]
 repeat' (first|refine gs0_ ?_|fail)
 refine bI 1 (by rfl) (by rfl) ?_
 simp only [ag6,ag_,Md,Ns,OI,iF,List.drop,if_true,List.set]
 obtain ⟨r_1,c1,H⟩:=bd_ H
 replace c1:=uN (F_a_f:=44) (caps_a_f:=[.ref [.int .i64 a_e.op, .int .i64 a_e.int, .int .i64 a_e.v.kind, .int .i64 a_e.v.int, .str a_e.v.text, .str a_e.nm, .lst (a_e.args.map tE)], .ref [.int .i64 a_p.lo, .int .i64 a_p.hi]]) (fun x0 r h=>zacG h) c1
 try simp only [ag8,ag6,ag_,ag0,aC] at c1
 obtain ⟨r_2,c2,H⟩:=bd_ H
 replace c2:=GN c2
 cases H
 exact aD
def eZ (a_x:Ex) (v_0:aj):Option ((List Val)):=(pK fuel a_x v_0.row).bind fun r_1=>some [r_1]
theorem mI {a_x:Ex} {v_0:aj} {r:(List Val)} (H:eZ a_x v_0=some r):Pure Tryz.prog 51 [.agg (tE a_x), .one (.ref [.lst (v_0.row.map cV), .int .i64 v_0.valid.lo, .int .i64 v_0.valid.hi])] (.val (.one (.lst (r.map cV)))):=by
 unfold eZ at H
 rw [aC a_x]
 refine po_ Tryz.func51 Tryz.ntmps51 ?_
 obtain ⟨r_1,c1,H⟩:=bd_ H
 replace c1:=rC fuel c1
 try simp only [ag8,ag6,ag_,ag0,aC] at c1
 cases H
 exact aD
def jP (a_f:aj) (v_0:Ex) (v_1:aI) (v_2:(List Ex)):Option ((List aj)):=(eX a_f v_0 v_1).bind fun r_1=>bif (!r_1.2) then (bu a_f.row [a_f.valid]).bind fun r_3=>some r_3 else
 (mr v_2 (fun x0=>eZ x0 a_f)).bind fun r_4=>(xP a_f.valid r_1.1).bind fun r_5=>(bu a_f.row r_5).bind fun r_6=>(bu r_4 [r_1.1]).bind fun r_7=>bif (decide (r_6.length+r_7.length<=3518437208883)) then (some (r_6++r_7)) else none
theorem ym {a_f:aj} {v_0:Ex} {v_1:aI} {v_2:(List Ex)} {r:(List aj)} (H:jP a_f v_0 v_1 v_2=some r):Pure Tryz.prog 49 [.agg (aJ a_f), .one (.ref [.int .i64 v_0.op, .int .i64 v_0.int, .int .i64 v_0.v.kind, .int .i64 v_0.v.int, .str v_0.v.text, .str v_0.nm, .lst (v_0.args.map tE)]), .one (.ref [.int .i64 v_1.lo, .int .i64 v_1.hi]), .one (.ref [.lst (v_2.map tE)])] (.val (.one (.lst (r.map aJ)))):=by
 unfold jP at H
 refine po_ Tryz.func49 Tryz.ntmps49 ?_
 obtain ⟨r_1,c1,H⟩:=bd_ H
 replace c1:=fE c1
 try simp only [ag8,ag6,ag_,ag0,aC] at c1
 rcases af H with ⟨q_2,H⟩|⟨q_2,H⟩
 ·obtain ⟨r_3,c2,H⟩:=bd_ H
  replace c2:=dY c2
  try simp only [ag8,ag6,ag_,ag0,aC] at c2
  cases H
  exact XY
 repeat' (first|refine gs0_ ?_|fail)
 refine aw_region tab_ok _ rfl ?_
 repeat' (first|refine gs0_ ?_|fail)
 refine aw_region tab_ok _ rfl ?_
 repeat' (first|refine gs0_ ?_|fail)
 refine aw_region tab_ok _ rfl ?_
 repeat' (first|refine gs0_ ?_|fail)
 refine bI 0 (by rfl) (by rfl) ?_
 simp only [ag6,ag_,Md,Ns,OI,iF,List.drop,if_true,List.set]
 obtain ⟨r_4,c3,H⟩:=bd_ H
 replace c3:=vB (F_a_f:=51) (caps_a_f:=[.ref [.lst (a_f.row.map cV), .int .i64 a_f.valid.lo, .int .i64 a_f.valid.hi]]) (fun x0 r h=>mI h) c3
 try simp only [ag8,ag6,ag_,ag0,aC] at c3
 obtain ⟨r_5,c4,H⟩:=bd_ H
 replace c4:=uU c4
 obtain ⟨r_6,c5,H⟩:=bd_ H
 replace c5:=dY c5
 obtain ⟨r_7,c6,H⟩:=bd_ H
 replace c6:=dY c6
 try simp only [ag8,ag6,ag_,ag0,aC] at c6
 obtain ⟨g7,H⟩:=aG H
 cases H
 refine gx_ ?_
 refine bI 1 (by rfl) (by rfl) ?_
 simp only [ag6,ag_,Md,Ns,OI,iF,List.drop,if_true,List.set]
 refine uR [6] bf _ rfl mixed (by decide +kernel) (by rfl) ?_
 exact XY
def qa (a_l:(List aj)) (a_e:Ex) (a_sets:(List Ex)) (a_p:aI):Option ((List aj)):=(nJ a_l (fun x0=>jP x0 a_e a_p a_sets)).bind fun r_1=>(Dw r_1).bind fun r_2=>some r_2
theorem qK {a_l:(List aj)} {a_e:Ex} {a_sets:(List Ex)} {a_p:aI} {r:(List aj)} (H:qa a_l a_e a_sets a_p=some r):Pure Tryz.prog 18 [.one (.lst (a_l.map aJ)), .agg (tE a_e), .one (.lst (a_sets.map tE)), .agg (bE a_p)] (.val (.one (.lst (r.map aJ)))):=by
 unfold qa at H
 rw [aC a_e]
 refine po_ Tryz.func18 Tryz.ntmps18 ?_
 repeat' (first|refine gs0_ ?_|fail)
 refine aw_region tab_ok _ rfl ?_
 repeat' (first|refine gs0_ ?_|fail)
 refine bI 0 (by rfl) (by rfl) ?_
 simp only [ag6,ag_,Md,Ns,OI,iF,List.drop,if_true,List.set]
 repeat' (first|refine gs0_ ?_|fail)
 refine bI 2 (by rfl) (by rfl) ?_
 simp only [ag6,ag_,Md,Ns,OI,iF,List.drop,if_true,List.set]
 repeat' (first|refine gs0_ ?_|fail)
 refine bI 1 (by rfl) (by rfl) ?_
 simp only [ag6,ag_,Md,Ns,OI,iF,List.drop,if_true,List.set]
 obtain ⟨r_1,c1,H⟩:=bd_ H
 replace c1:=uN (F_a_f:=49) (caps_a_f:=[.ref [.int .i64 a_e.op, .int .i64 a_e.int, .int .i64 a_e.v.kind, .int .i64 a_e.v.int, .str a_e.v.text, .str a_e.nm, .lst (a_e.args.map tE)], .ref [.int .i64 a_p.lo, .int .i64 a_p.hi], .ref [.lst (a_sets.map tE)]]) (fun x0 r h=>ym h) c1
 try simp only [ag8,ag6,ag_,ag0,aC] at c1
 obtain ⟨r_2,c2,H⟩:=bd_ H
 replace c2:=GN c2
 cases H
 exact aD
end
set_option maxHeartbeats 8000000
noncomputable section
def oI (a_r:dA) (a_w:cO):(Int)->Option (Step (Int) (Bool)):=fun s=>match s with
 | i_19=>bif (decide (i_19<((a_w.sets.length:Nat):Int))) then (aH a_w.sets i_19).bind fun x_21=>(vW x_21 a_r.kinds).bind fun r_22=>bif (decide (r_22.2≠(0:Int))) then some (.ret false) else
 some (.next (IntKind.i64.wrap (i_19+(1:Int)))) else
 some (.exit i_19)
def o_:Sum (Int) (Bool)->Option ((Bool))
 | .inl i_19=>some true
 | .inr q=>some q
def o7 (a_r:dA) (a_w:cO):(Int)->Option (Step (Int) (Bool)):=fun s=>match s with
 | i_14=>bif (decide (i_14<((a_w.rows.length:Nat):Int))) then (aH a_w.rows i_14).bind fun x_16=>(wS x_16 a_r.kinds).bind fun r_17=>bif (!r_17) then some (.ret false) else
 some (.next (IntKind.i64.wrap (i_14+(1:Int)))) else
 some (.exit i_14)
def lY (a_r:dA) (a_w:cO):Sum (Int) (Bool)->Option ((Bool))
 | .inl i_14=>(ax (oI a_r a_w) fuel (0:Int)).bind (o_)
 | .inr q=>some q
def kS (a_r:dA) (a_w:cO):Option (Bool):=bif (decide ((16:Int)<((a_r.facts.length:Nat):Int))) then some false else
 bif (decide ((16:Int)<((a_w.rows.length:Nat):Int))) then some false else
 bif (decide ((20:Int)<((a_w.sets.length:Nat):Int))) then some false else
 bif (decide ((20:Int)<((a_r.kinds.length:Nat):Int))) then some false else
 (JU a_r).bind fun r_5=>bif (!r_5) then some false else
 (yG [a_w.pred] (200:Int)).bind fun r_7=>bif (!r_7) then some false else
 (yG a_w.sets (200:Int)).bind fun r_9=>bif (!r_9) then some false else
 (Af a_w.pred a_r.kinds).bind fun r_11=>bif (decide (r_11≠(0:Int))) then some false else
 bif (decide (((a_w.sets.length:Nat):Int)=(0:Int))) then some false else
 (ax (o7 a_r a_w) fuel (0:Int)).bind (lY a_r a_w)
theorem mf {a_r:dA} {a_w:cO} {r:Bool} (H:kS a_r a_w=some r):Pure Tryz.prog 9 [.agg (tL a_r), .agg (iB a_w)] (.val (.one (.bool r))):=by
 unfold kS at H
 refine po_ Tryz.func9 Tryz.ntmps9 ?_
 rcases af H with ⟨q_1,H⟩|⟨q_1,H⟩
 ·cases H
  exact aD
 rcases af H with ⟨q_2,H⟩|⟨q_2,H⟩
 ·cases H
  exact aD
 rcases af H with ⟨q_3,H⟩|⟨q_3,H⟩
 ·cases H
  exact aD
 rcases af H with ⟨q_4,H⟩|⟨q_4,H⟩
 ·cases H
  exact aD
 obtain ⟨r_5,c1,H⟩:=bd_ H
 replace c1:=Yp c1
 rcases af H with ⟨q_6,H⟩|⟨q_6,H⟩
 ·cases H
  exact aD
 obtain ⟨r_7,c2,H⟩:=bd_ H
 replace c2:=NK c2
 try simp only [ag8,ag6,ag_,ag0,aC] at c2
 rcases af H with ⟨q_8,H⟩|⟨q_8,H⟩
 ·cases H
  exact aD
 obtain ⟨r_9,c3,H⟩:=bd_ H
 replace c3:=NK c3
 rcases af H with ⟨q_10,H⟩|⟨q_10,H⟩
 ·cases H
  exact aD
 obtain ⟨r_11,c4,H⟩:=bd_ H
 replace c4:=Ut c4
 try simp only [ag8,ag6,ag_,ag0,aC] at c4
 rcases af H with ⟨q_12,H⟩|⟨q_12,H⟩
 ·cases H
  exact aD
 rcases af H with ⟨q_13,H⟩|⟨q_13,H⟩
 ·cases H
  exact aD
 refine bF ?_
 refine alM_ (fun s:Int=>match s with|i_14=>[(2, .one (.ptr 0 0)),(3, .one (.ptr 1 0)),(5, .one (.c (.int .i64 i_14)))]) (fun s=>match s with|i_14=>[.box [.c (.lst (a_r.kinds.map (fun x=>[AC.int .i64 x]))), .c (.lst (a_r.facts.map aJ))], .box [.c (.int .i64 a_w.pred.op), .c (.int .i64 a_w.pred.int), .c (.int .i64 a_w.pred.v.kind), .c (.int .i64 a_w.pred.v.int), .c (.str a_w.pred.v.text), .c (.str a_w.pred.nm), .c (.lst (a_w.pred.args.map tE)), .c (.lst (a_w.sets.map tE)), .c (.lst (a_w.rows.map (fun x=>[AC.lst (x.map cV)]))), .c (.int .i64 a_w.during.lo), .c (.int .i64 a_w.during.hi)]]) H (fun _=>ahe _)
  (fm_ dh [] rfl bH dw) ?_
 rintro i_14 st1 hb1 hk1
 unfold o7 at hb1
 dsimp only at hb1 ⊢
 rcases af hb1 with ⟨q_15,hb1⟩|⟨q_15,hb1⟩
 ·obtain ⟨x_16,i5z,i5,i5x,hb1⟩:=aY (f:=(fun x=>[AC.lst (x.map cV)])) hb1
  obtain ⟨r_17,c6,hb1⟩:=bd_ hb1
  replace c6:=MG c6
  rcases af hb1 with ⟨q_18,hb1⟩|⟨q_18,hb1⟩
  ·cases hb1
   have hx1:lY a_r a_w (.inr false)=some _:=hk1
   unfold lY at hx1
   dsimp only at hx1
   cases hx1
   exact aD
  cases hb1
  refine bF ?_
  exact ⟨_,rfl,fm_ dh [] rfl bH dw⟩
 cases hb1
 have hx1:lY a_r a_w (.inl i_14)=some _:=hk1
 unfold lY at hx1
 dsimp only at hx1
 refine bF ?_
 refine alM_ (fun s:Int=>match s with|i_19=>[(2, .one (.ptr 0 0)),(3, .one (.ptr 1 0)),(6, .one (.c (.int .i64 i_19)))]) (fun s=>match s with|i_19=>[.box [.c (.lst (a_r.kinds.map (fun x=>[AC.int .i64 x]))), .c (.lst (a_r.facts.map aJ))], .box [.c (.int .i64 a_w.pred.op), .c (.int .i64 a_w.pred.int), .c (.int .i64 a_w.pred.v.kind), .c (.int .i64 a_w.pred.v.int), .c (.str a_w.pred.v.text), .c (.str a_w.pred.nm), .c (.lst (a_w.pred.args.map tE)), .c (.lst (a_w.sets.map tE)), .c (.lst (a_w.rows.map (fun x=>[AC.lst (x.map cV)]))), .c (.int .i64 a_w.during.lo), .c (.int .i64 a_w.during.hi)]]) hx1 (fun _=>ahe _)
  (fm_ dh [] rfl bH dw) ?_
 rintro i_19 st2 hb2 hk2
 unfold oI at hb2
 dsimp only at hb2 ⊢
 rcases af hb2 with ⟨q_20,hb2⟩|⟨q_20,hb2⟩
 ·obtain ⟨x_21,i7z,i7,i7x,hb2⟩:=aY (f:=tE) hb2
  simp only [ag8,ag6,ag_,ag0,aC] at i7x
  obtain ⟨r_22,c8,hb2⟩:=bd_ hb2
  replace c8:=Na c8
  try simp only [ag8,ag6,ag_,ag0,aC] at c8
  rcases af hb2 with ⟨q_23,hb2⟩|⟨q_23,hb2⟩
  ·cases hb2
   have hx2:o_ (.inr false)=some _:=hk2
   unfold o_ at hx2
   dsimp only at hx2
   cases hx2
   exact aD
  cases hb2
  refine bF ?_
  exact ⟨_,rfl,fm_ dh [] rfl bH dw⟩
 cases hb2
 have hx2:o_ (.inl i_19)=some _:=hk2
 unfold o_ at hx2
 dsimp only at hx2
 cases hx2
 exact aD
def zaaK (a_l:(List aj)) (a_rows:(List (List Val))) (a_t:Int):Option (Bool):=(zabS a_l).bind fun r_1=>bif r_1 then (zacj a_l a_t).bind fun r_3=>(Br a_rows).bind fun r_4=>(zaaX r_3 r_4).bind fun r_5=>some r_5 else
 some false
theorem zaaH {a_l:(List aj)} {a_rows:(List (List Val))} {a_t:Int} {r:Bool} (H:zaaK a_l a_rows a_t=some r):Pure Tryz.prog 24 [.one (.lst (a_l.map aJ)), .one (.lst (a_rows.map (fun x=>[AC.lst (x.map cV)]))), .one (.int .i64 a_t)] (.val (.one (.bool r))):=by
 unfold zaaK at H
 refine po_ Tryz.func24 Tryz.ntmps24 ?_
 obtain ⟨r_1,c1,H⟩:=bd_ H
 replace c1:=zadA c1
 rcases af H with ⟨q_2,H⟩|⟨q_2,H⟩
 ·obtain ⟨r_3,c2,H⟩:=bd_ H
  replace c2:=zacR c2
  obtain ⟨r_4,c3,H⟩:=bd_ H
  replace c3:=FN c3
  obtain ⟨r_5,c4,H⟩:=bd_ H
  replace c4:=zacr c4
  cases H
  exact aD
 cases H
 exact aD
end
theorem QR {α ρ:Type} {l:List α} {body:Int->Option (Step Int ρ)} {no:ρ} (c:α->Bool) (h1 : ∀ (i:Nat) x,l[i]?=some x->body (i:Int)=some (if c x=true then .next ((i+1:Nat):Int) else .ret no)) (h2:body ((l.length:Nat):Int)=some (.exit ((l.length:Nat):Int))) (hl:l.length<fuel) :
  ax body fuel (0:Int)=some (if l.all c=true then .inl ((l.length:Nat):Int) else .inr no):=by
 have key : ∀ (n i:Nat),i<=l.length->l.length-i<n->ax body n (i:Int)=some (if (l.drop i).all c=true then .inl ((l.length:Nat):Int) else .inr no):=by
  intro n
  induction n with
  | zero=>intro i _ h;omega
  | succ n ih =>
   intro i hi hn
   rw [ax]
   by_cases hlt:i<l.length
   ·obtain ⟨x,hx⟩:=gol_ hlt
    have e1:=(agV.1 hx).2
    rw [ahp hlt,e1,h1 i x hx,List.all_cons]
    cases hc:c x with
    | false=>rfl
    | true =>
     show ax body n _=_
     rw [ih (i+1) (by omega) (by omega),ahr]
   ·have:i=l.length:=by omega
    subst this
    rw [h2,ahO]
    rfl
 have:=key fuel 0 (ahe _) (by omega)
 simpa using this
theorem Ph (a b:Int):CY a b=max a b:=by unfold CY;split<;>omega
theorem OO (a b:Int):Mg a b=min a b:=by unfold Mg;split<;>omega
theorem WB (p q:aI):K6 p q=some (BL p q):=by
 unfold K6 BL
 rw [Bj,agU]
 cases aL p with
 | false=>rfl
 | true =>
  rw [agX,Bj,agU,ahr]
  cases aL q with
  | false=>rfl
  | true =>
   rw [agX,ahr]
   by_cases h:p.lo<q.hi
   ·rw [agZ h,agX,ahr]
   ·rw [agY h];rfl
theorem JZ (p q:aI):rU p q=some (if BL p q=true then (Ay p q,true) else (⟨0,0⟩,false)):=by
 unfold rU
 rw [WB,agU]
 cases BL p q with
 | false=>rfl
 | true=>rw [Ph,OO];rfl
theorem MK (p:aI):aL p=decide (0<=p.lo/\p.lo<p.hi/\p.hi<=1099511627776):=by
 refine Jm ?_
 rw [fe,decide_eq_true_iff]
theorem Wq (p:aI) (c:aI × Bool):(ax (xW p c) fuel ([],(0:Int))).bind yY=some (([⟨p.lo,c.1.lo⟩,⟨c.1.hi,p.hi⟩]:List aI).filter fun x=>aL x):=by
 rw [df (l:=([⟨p.lo,c.1.lo⟩,⟨c.1.hi,p.hi⟩]:List aI)) (fun x=>if aL x=true then [id x] else []) 8796093022208 ?_ ?_ (by unfold fuel;simp) [] (by rw [ja aL id,ag7];have:=List.length_filter_le aL ([⟨p.lo,c.1.lo⟩,⟨c.1.hi,p.hi⟩]:List aI);simp only [ahf,aho] at this ⊢;omega)]
 ·rw [agU,ag0,ja aL id,List.map_id];rfl
 ·intro s i x hx hs
  have hi:i<2:=(agV.1 hx).1
  have hz:dL [.c (.int .i64 x.lo), .c (.int .i64 x.hi)] [.c (.int .i64 (0:Int)), .c (.int .i64 (0:Int))]=decide (x.lo=0/\x.hi=0):=dV x ⟨0,0⟩
  unfold xW
  dsimp only
  rw [agZ (show (i:Int)<2 by omega),agX,gn_ hx,agU,hz,wrapN (by omega)]
  by_cases h0:x.lo=0/\x.hi=0
  ·have hn:aL x=false:=by
    cases h:aL x with
    | false=>rfl
    | true=>have:=(fe x).1 h;omega
   rw [agZ h0,hn,if_neg (by intro q;cases q),ahs];rfl
  ·rw [agY h0]
   show ((UI x).bind _)=_
   rw [Bj,agU]
   cases h:aL x with
   | false=>rw [if_neg (by intro q;cases q),ahs];rfl
   | true =>
    rw [h] at hs
    rw [agZ (show s.length+1<=8796093022208 from hs)];rfl
 ·intro s;rfl
theorem RN {p q:aI} (h:BL p q=true):xP p (Ay p q)=some (EF p q):=by
 obtain ⟨hp,hq,h1,h2⟩:=(Aq p q).1 h
 have hp':=(fe p).1 hp
 have hq':=(fe q).1 hq
 have ho:BL p (Ay p q)=true:=(Aq _ _).2 ⟨hp,(fe _).2 (by show 0<=max p.lo q.lo/\max p.lo q.lo<min p.hi q.hi/\min p.hi q.hi<=_;omega),by show p.lo<min p.hi q.hi;omega,by show max p.lo q.lo<p.hi;omega⟩
 unfold xP
 rw [Bj,agU,hp,JZ,ho]
 show (ax (xW p (Ay p (Ay p q),true)) fuel ([],(0:Int))).bind yY=_
 rw [Wq]
 show some (List.filter (fun x=>aL x) [⟨p.lo,max p.lo (max p.lo q.lo)⟩,⟨min p.hi (min p.hi q.hi),p.hi⟩])=_
 rw [show max p.lo (max p.lo q.lo)=max p.lo q.lo by omega,show min p.hi (min p.hi q.hi)=min p.hi q.hi by omega]
 unfold EF
 rw [List.filter_cons,List.filter_cons,List.filter_nil,MK,MK]
 dsimp only
 by_cases ha:p.lo<q.lo
 ·rw [if_pos ha,if_pos (by rw [decide_eq_true_iff];omega),show max p.lo q.lo=q.lo by omega]
  by_cases hb:q.hi<p.hi
  ·rw [if_pos hb,if_pos (by rw [decide_eq_true_iff];omega),show min p.hi q.hi=q.hi by omega];rfl
  ·rw [if_neg hb,if_neg (by rw [decide_eq_true_iff];omega)];rfl
 ·rw [if_neg ha,if_neg (by rw [decide_eq_true_iff];omega)]
  by_cases hb:q.hi<p.hi
  ·rw [if_pos hb,if_pos (by rw [decide_eq_true_iff];omega),show min p.hi q.hi=q.hi by omega];rfl
  ·rw [if_neg hb,if_neg (by rw [decide_eq_true_iff];omega)];rfl
theorem dK {α β:Type} (f:α->β) : ∀ l:List α,(l.flatMap fun x=>[f x])=l.map f:=fo_ f
theorem iU (row:List Val) (l:List aI) (hl:l.length<=1000000):bu row l=some (mW row l):=by
 unfold bu
 rw [df (l:=l) (fun x=>[(⟨row,x⟩:aj)]) 3518437208883 ?_ ?_ (by unfold fuel;omega) [] (by rw [dK,ag7];simp only [aho];omega)]
 ·rw [agU,ag0,dK];rfl
 ·intro s i x hx hs
  have hi:=(agV.1 hx).1
  unfold dQ
  dsimp only
  rw [aV hx,agX,gn_ hx,agU,wrapN (by omega),agZ (show s.length+1<=3518437208883 from hs)];rfl
 ·intro s
  unfold dQ
  dsimp only
  rw [lF_,agW]
theorem BR {e:Ex} (he:fH fuel e) (f:aj) (p:aI):eX f e p=some (if BL f.valid p=true then (Ay f.valid p,oZ e f.row) else (⟨0,0⟩,false)):=by
 unfold eX
 rw [JZ,agU]
 cases BL f.valid p with
 | false=>rfl
 | true =>
  rw [if_pos rfl,if_pos rfl,UB he];rfl
theorem Di (f:aj):mW f.row [f.valid]=[f]:=rfl
theorem N9 (p q:aI):(EF p q).length<=2:=by
 unfold EF
 rw [ag3]
 split<;>split<;>simp
theorem zacM {e:Ex} (he:fH fuel e) (f:aj) (p:aI):zabb f e p=some (iO e p f):=by
 unfold zabb iO Ej
 rw [BR he,agU]
 cases ho:BL f.valid p with
 | false =>
  rw [if_neg (by intro x;cases x),Bool.false_and,if_neg (by intro x;cases x)]
  show (bu f.row [f.valid]).bind _=_
  rw [iU _ _ (by simp),Di];rfl
 | true =>
  rw [if_pos rfl,ahr]
  cases hs:oZ e f.row with
  | false =>
   rw [if_neg (by intro x;cases x)]
   show (bu f.row [f.valid]).bind _=_
   rw [iU _ _ (by simp),Di];rfl
  | true =>
   rw [if_pos rfl]
   show (xP f.valid (Ay f.valid p)).bind _=_
   rw [RN ho,agU,iU _ _ (by have:=N9 f.valid p;omega)];rfl
theorem EB {l:List aj} {a:aj->Option (List aj)} (g:aj->List aj) (k:Nat) (ha : ∀ f∈l,a f=some (g f)) (hk : ∀ f,(g f).length<=k) (hl:k*l.length<=1000000) (hn:l.length<=1000000):nJ l a=some (l.flatMap g):=by
 unfold nJ
 have hL:=bv g k hk l
 rw [df (l:=l) g 3518437208883 ?_ ?_ (by unfold fuel;omega) [] (by simp only [aho];omega)]
 ·rw [agU,ag0];rfl
 ·intro s i x hx hs
  have hi:=(agV.1 hx).1
  have hm:x∈l:=ag1 hx
  unfold jf
  dsimp only
  rw [aV hx,agX,gn_ hx,agU,ha x hm,agU,wrapN (by omega),agZ hs];rfl
 ·intro s
  unfold jf
  dsimp only
  rw [lF_,agW]
theorem zaav {l:List aj} (h:bM l) (hn:l.length<=100) {e:Ex} (he:fH fuel e) (p:aI):zaay l e p=some (canon (l.flatMap (iO e p))):=by
 unfold zaay
 rw [EB (iO e p) 2 (fun f _=>zacM he f p) (gV e p) (by omega) (by omega),agU,qY (o9 h hn e p)];rfl
theorem zadK {l:List (List Val)} {a:List Val->Option (List aj)} (g:List Val->aj) (ha : ∀ f∈l,a f=some [g f]) (hn:l.length<=1000000):zab8 l a=some (l.map g):=by
 unfold zab8
 rw [df (l:=l) (fun x=>[g x]) 3518437208883 ?_ ?_ (by unfold fuel;omega) [] (by rw [dK,ag7];simp only [aho];omega)]
 ·rw [agU,ag0,dK];rfl
 ·intro s i x hx hs
  have hi:=(agV.1 hx).1
  have hm:x∈l:=ag1 hx
  unfold zabc
  dsimp only
  rw [aV hx,agX,gn_ hx,agU,ha x hm,agU,wrapN (by omega),agZ hs];rfl
 ·intro s
  unfold zabc
  dsimp only
  rw [lF_,agW]
theorem zaaE {l:List aj} {rows:List (List Val)} {p:aI} (h:bM (l++mo rows p)):zaaL l rows p=some (canon (l++mo rows p)):=by
 have hl:=h.1
 rw [ag3] at hl
 have hr:(mo rows p).length=rows.length:=by unfold mo;rw [ag7]
 unfold zaaL
 rw [zadK (fun r=>⟨r,p⟩) (fun r _=>by unfold zabv;rw [iU _ _ (by simp)];rfl) (by omega),agU]
 show (bif decide (l.length<=_) then (bif decide (l.length+(mo rows p).length<=_) then (Dw (l++mo rows p)).bind _ else none) else none)=_
 rw [agZ (show l.length<=3518437208883 by omega),agX,agZ (show l.length+(mo rows p).length<=3518437208883 by omega),agX,qY h];rfl
end Go.Proofs.YtcehmafobkhdbaaGreatDoor
namespace Go.Proofs.YtcehmafobkhdbaaGreatDoor.Aw
open Go.RowKit Go.MapKept
def OG:List (List AC)->Option (List Stp)
 | []=>some []
 | [.int .i64 a, .int .i64 b]::l=>match OG l with
  | some r=>some (⟨a,b⟩::r)
  | none=>none
 | _=>none
theorem MO : ∀ {es:List (List AC)} {l:List Stp}, OG es=some l->es=l.map y8
 | [],l,h=>by cases h;rfl
 | e::es,l,h=>by
  unfold OG at h
  split at h
  ·rename_i hq;cases hq
  ·rename_i a b es' heq
   obtain ⟨rfl,rfl⟩:=List.cons.inj heq
   split at h
   ·rename_i r hr
    cases h
    rw [ag6, <- MO hr];rfl
   ·cases h
  ·cases h
def VJ:List Stp->Bool
 | []=>true
 | x::l=>(l.all fun y=>decide (x.lo<y.lo))&&VJ l
def S9 (l:List Stp):Bool:=decide (l.length<=1000)&&(VJ l&&l.all fun s=>decide (s.lo<1099511627776)&&decide (s.n<=600))
theorem Sk : ∀ {l:List Stp}, VJ l=true->l.Pairwise fun x y=>x.lo<y.lo
 | [],_=>List.Pairwise.nil
 | x::l,h=>by
  unfold VJ at h
  rw [ahb,ahI] at h
  exact ahP.2 ⟨fun y hy=>ahm (h.1 y hy),Sk h.2⟩
theorem C_ {l:List Stp} (h:S9 l=true):Ng l:=by
 unfold S9 at h
 rw [ahb,ahb,ahI] at h
 obtain ⟨h1,h2,h3⟩:=h
 refine ⟨ahm h1,?_,fun s hs=>?_,fun s hs=>?_⟩
 ·intro i j x y hij hx hy
  rw [ahg] at hx hy
  obtain ⟨a,ha,rfl⟩:=Option.map_eq_some_iff.1 hx
  obtain ⟨b,hb,rfl⟩:=Option.map_eq_some_iff.1 hy
  obtain ⟨hi,ea⟩:=agV.1 ha
  obtain ⟨hj,eb⟩:=agV.1 hb
  have:=List.pairwise_iff_getElem.1 (Sk h2) i j hi hj hij
  rw [ea,eb] at this
  exact this
 ·have:=h3 s hs;rw [ahb] at this;exact ahm this.1
 ·have:=h3 s hs;rw [ahb] at this;exact ahm this.2
def aaa:FuncId->List PV->Option CV:=fun g ps=>match Nat.beq g 70,ps with
 | true,[.one (.lst es)]=>match OG es with
  | some l=>match S9 l with
   | true=>some (.val (.one (.lst ((EC l).map bE))))
   | false=>none
  | none=>none
 | _,_=>none
theorem abR (g:FuncId) (ps:List PV) (r:CV) (h:aaa g ps=some r):Pure Tryz.prog g ps r:=by
 unfold aaa at h
 split at h
 ·rename_i es hg
  split at h
  ·rename_i l hl
   split at h
   ·rename_i hb
    cases h
    rw [Nat.eq_of_beq_eq_true hg,MO hl]
    exact R4 l (C_ hb)
   ·cases h
  ·cases h
 ·cases h
noncomputable def cx:Cx := { P:=Tryz.prog,ti:=WK,xs:=⟨211,218⟩,row:=afw,frz:=afD,flg:=aeP,orc:=aaa,bad:=ae_,fz:=fzT }
theorem YX:ZN Tryz.prog 211:=⟨_,Tryz.func211,by kernel_rfl,by kernel_rfl,by kernel_rfl,by kernel_rfl⟩
theorem aaG:adu Tryz.prog 218:=⟨_,Tryz.func218,by kernel_rfl,by kernel_rfl,by kernel_rfl,by kernel_rfl⟩
theorem JR:Cr Tryz.prog.funcs.toList=true:=by kernel_rfl
theorem I8:Cw cx Tryz.prog.funcs.toList 0=true:=by kernel_rfl
theorem Vv:I1 cx:=I1.of ay ⟨YX,aaG⟩ mixed JR I8 (abR)
theorem WX:(evF cx 64).1 10 []=some (.val (.one (.bool true))):=by kernel_rfl
theorem dD:Pure Tryz.prog 10 [] (.val (.one (.bool true))):=(Ci Vv 64).1 _ _ _ WX
end Go.Proofs.YtcehmafobkhdbaaGreatDoor.Aw
namespace Go.Proofs.YtcehmafobkhdbaaGreatDoor
open Go.RowKit Go.MapKept
set_option maxRecDepth 100000
set_option maxHeartbeats 8000000
set_option maxHeartbeats 8000000
set_option maxHeartbeats 8000000
structure V7 (r:dA) (w:cO):Prop where
 rel:VH r
 rows:w.rows.length<=16
 row : ∀ x∈w.rows,x.length<=20 /\ ∀ v∈x,vF v=true
 sets:w.sets.length<=20
 set : ∀ e∈w.sets,fH fuel e
 pred:fH fuel w.pred
theorem aay {α:Type} {P:α->Bool->Prop} (h : ∀ x, ∃ b,P x b) : ∃ c:α->Bool, ∀ x,P x (c x):=⟨fun x=>Classical.choose (h x),fun x=>Classical.choose_spec (h x)⟩
theorem kI (r:dA) (w:cO) : ∃ b,kS r w=some b/\(b=true->V7 r w):=by
 have no : ∃ b,(some false:Option Bool)=some b/\(b=true->V7 r w):=⟨false,rfl,fun h=>by cases h⟩
 unfold kS
 by_cases h1:(16:Int)<((r.facts.length:Nat):Int)
 ·rw [agZ h1,agX];exact no
 rw [agY h1,agW]
 by_cases h2:(16:Int)<((w.rows.length:Nat):Int)
 ·rw [agZ h2,agX];exact no
 rw [agY h2,agW]
 by_cases h3:(20:Int)<((w.sets.length:Nat):Int)
 ·rw [agZ h3,agX];exact no
 rw [agY h3,agW]
 by_cases h4:(20:Int)<((r.kinds.length:Nat):Int)
 ·rw [agZ h4,agX];exact no
 rw [agY h4,agW]
 obtain ⟨b5,hb5,ok5⟩:=KD (r:=r) (by omega) (by omega)
 rw [hb5,agU]
 cases b5 with
 | false=>exact no
 | true =>
  obtain ⟨s1,s2,s3⟩:=ok5 rfl
  rw [Bool.not_true,agW]
  obtain ⟨b6,hb6,ok6⟩:=MN [w.pred]
  rw [hb6,agU]
  cases b6 with
  | false=>exact no
  | true =>
   have hp:=MP ((ok6 rfl).2 w.pred (by simp))
   rw [Bool.not_true,agW]
   obtain ⟨b7,hb7,ok7⟩:=MN w.sets
   rw [hb7,agU]
   cases b7 with
   | false=>exact no
   | true =>
    have hs : ∀ e∈w.sets,fH fuel e:=fun e he=>MP ((ok7 rfl).2 e he)
    rw [Bool.not_true,agW]
    obtain ⟨m,hm⟩:=UO r.kinds hp
    rw [hm,agU]
    by_cases h8:m≠0
    ·rw [agZ h8,agX];exact no
    rw [agY h8,agW]
    by_cases h9:((w.sets.length:Nat):Int)=0
    ·rw [agZ h9,agX];exact no
    rw [agY h9,agW]
    obtain ⟨c,hc⟩:=aay fun x:List Val=>KV (row:=x) (kinds:=r.kinds) (by omega)
    rw [QR (l:=w.rows) (body:=o7 r w) (no:=false) c ?_ ?_ (by unfold fuel;omega),agU]
    ·cases hall:w.rows.all c with
     | false=>exact no
     | true =>
      rw [if_pos rfl]
      unfold lY
      dsimp only
      rw [QR (l:=w.sets) (body:=oI r w) (no:=false) (fun e=>decide ((Az e r.kinds).2=0)) ?_ ?_ (by unfold fuel;omega),agU]
      ·refine ⟨w.sets.all fun e=>decide ((Az e r.kinds).2=0),?_,fun _=>⟨⟨by omega,by omega,s1,s2,s3⟩,by omega,?_,by omega,hs,hp⟩⟩
       ·split<;>rename_i hq
        ·rw [hq];rfl
        ·rw [Bool.not_eq_true] at hq;rw [hq];rfl
       ·intro x hx
        have:=(hc x).2 (ahI.1 hall x hx)
        exact ⟨by omega,this.2⟩
      ·intro i x hx
       have hi:=(agV.1 hx).1
       unfold oI
       dsimp only
       rw [aV hx,agX,gn_ hx,agU,(ZZ r.kinds (hs x (ag1 hx))).1,agU,wrapN (by omega)]
       by_cases hz:(Az x r.kinds).2=0
       ·simp [hz]
       ·simp [hz]
      ·unfold oI
       dsimp only
       rw [lF_,agW]
    ·intro i x hx
     have hi:=(agV.1 hx).1
     unfold o7
     dsimp only
     rw [aV hx,agX,gn_ hx,agU,(hc x).1,agU,wrapN (by omega)]
     cases c x<;>rfl
    ·unfold o7
     dsimp only
     rw [lF_,agW]
theorem V7.ins {r:dA} {w:cO} (H:V7 r w) {l:List aj} (h:bM l) (hl:l.length<=200) (p:aI):bM (l++mo w.rows p):=by
 refine ⟨?_,?_⟩
 ·have:=H.rows
  unfold mo
  rw [ag3,ag7];omega
 ·intro f hf
  rcases ahl.1 hf with hf|hf
  ·exact h.2 f hf
  ·unfold mo at hf
   obtain ⟨x,hx,rfl⟩:=aht.1 hf
   have:=H.row x hx
   exact ⟨by have:=this.1;show x.length<=1000;omega,fun v hv=>(xL (this.2 v hv)).vok⟩
set_option maxHeartbeats 8000000
set_option maxHeartbeats 8000000
set_option maxHeartbeats 8000000
noncomputable section
def zaan (a_w:cO) (r_4:(List (List Val))):((List (List Val)) × (List (List Val)) × Int)->Option (Step ((List (List Val)) × (List (List Val)) × Int) (Bool)):=fun s=>match s with
 | (deleted_7,updated_8,i_9)=>bif (decide (i_9<((r_4.length:Nat):Int))) then (aH r_4 i_9).bind fun x_11=>(l8 a_w.pred x_11).bind fun r_12=>bif (decide (r_12=(2:Int))) then (sG a_w.sets x_11).bind fun r_14=>bif (decide (updated_8.length+1<=5864062014805)) then (some (.next (deleted_7,(updated_8++[r_14]),(IntKind.i64.wrap (i_9+(1:Int)))))) else none else
 bif (decide (deleted_7.length+1<=5864062014805)) then (bif (decide (updated_8.length+1<=5864062014805)) then (some (.next ((deleted_7++[x_11]),(updated_8++[x_11]),(IntKind.i64.wrap (i_9+(1:Int)))))) else none) else none else
 some (.exit (deleted_7,updated_8,i_9))
def zaat (a_r:dA) (a_w:cO) (a_t:Int) (r_4:(List (List Val))):Sum ((List (List Val)) × (List (List Val)) × Int) (Bool)->Option ((Bool))
 | .inl (deleted_7,updated_8,i_9)=>(zaaL a_r.facts a_w.rows a_w.during).bind fun r_15=>(zaaK r_15 (r_4++a_w.rows) a_t).bind fun r_16=>bif r_16 then (zaay a_r.facts a_w.pred a_w.during).bind fun r_18=>(zaaK r_18 deleted_7 a_t).bind fun r_19=>bif r_19 then (qa a_r.facts a_w.pred a_w.sets a_w.during).bind fun r_21=>(zaaK r_21 updated_8 a_t).bind fun r_22=>bif r_22 then some (true) else
 some false else
 some false else
 some false
 | .inr q=>some q
def zaax (a_r:dA) (a_w:cO) (a_t:Int):Option (Bool):=(kS a_r a_w).bind fun r_1=>bif (!r_1) then some (true) else
 (zacj a_r.facts a_t).bind fun r_4=>(zaaz a_w.during a_t).bind fun r_5=>bif r_5 then bif (decide (r_4.length<=5864062014805)) then (bif (decide (r_4.length+a_w.rows.length<=5864062014805)) then ((ax (zaan a_w r_4) fuel ([],[],(0:Int))).bind (zaat a_r a_w a_t r_4)) else none) else none else
 (zaaL a_r.facts a_w.rows a_w.during).bind fun r_25=>(zaaK r_25 r_4 a_t).bind fun r_26=>bif r_26 then (zaay a_r.facts a_w.pred a_w.during).bind fun r_28=>(zaaK r_28 r_4 a_t).bind fun r_29=>bif r_29 then (qa a_r.facts a_w.pred a_w.sets a_w.during).bind fun r_31=>(zaaK r_31 r_4 a_t).bind fun r_32=>bif r_32 then some (true) else
 some false else
 some false else
 some false
theorem zabt {a_r:dA} {a_w:cO} {a_t:Int} {r:Bool} (H:zaax a_r a_w a_t=some r):Pure Tryz.prog 6 [.agg (tL a_r), .agg (iB a_w), .one (.int .i64 a_t)] (.val (.one (.bool r))):=by
 unfold zaax at H
 refine po_ Tryz.func6 Tryz.ntmps6 ?_
 obtain ⟨r_1,c1,H⟩:=bd_ H
 replace c1:=mf c1
 rcases af H with ⟨q_2,H⟩|⟨q_2,H⟩
 ·have hc_3:=Aw.dD
  try simp only [ag8,ag6,ag_,ag0,aC] at hc_3
  cases H
  exact aD
 obtain ⟨r_4,c2,H⟩:=bd_ H
 replace c2:=zacR c2
 obtain ⟨r_5,c3,H⟩:=bd_ H
 replace c3:=zabf c3
 rcases af H with ⟨q_6,H⟩|⟨q_6,H⟩
 ·obtain ⟨g4,H⟩:=aG H
  obtain ⟨g5,H⟩:=aG H
  refine bF ?_
  simp only [<- ag8]
  refine bX 9 1 rfl ?_
  refine bX 10 1 rfl ?_
  refine alM_ (fun s:(List (List Val)) × (List (List Val)) × Int=>match s with|(deleted_7,updated_8,i_9)=>[(2, .one (.c (.int .i64 a_t))),(3, .one (.ptr 0 0)),(4, .one (.ptr 1 0)),(7, .one (.c (.lst (r_4.map (fun x=>[AC.lst (x.map cV)]))))),(8, .one (.own ((r_4++a_w.rows).map (fun x=>[AC.lst (x.map cV)])) 2)),(9, .one (.own (deleted_7.map (fun x=>[AC.lst (x.map cV)])) 3)),(10, .one (.own (updated_8.map (fun x=>[AC.lst (x.map cV)])) 4)),(11, .one (.c (.int .i64 i_9)))]) (fun s=>match s with|(deleted_7,updated_8,i_9)=>[.box [.c (.lst (a_r.kinds.map (fun x=>[AC.int .i64 x]))), .c (.lst (a_r.facts.map aJ))], .box [.c (.int .i64 a_w.pred.op), .c (.int .i64 a_w.pred.int), .c (.int .i64 a_w.pred.v.kind), .c (.int .i64 a_w.pred.v.int), .c (.str a_w.pred.v.text), .c (.str a_w.pred.nm), .c (.lst (a_w.pred.args.map tE)), .c (.lst (a_w.sets.map tE)), .c (.lst (a_w.rows.map (fun x=>[AC.lst (x.map cV)]))), .c (.int .i64 a_w.during.lo), .c (.int .i64 a_w.during.hi)], .spare (r_4.length+a_w.rows.length) 1, .spare deleted_7.length 1, .spare updated_8.length 1]) H (fun _=>ahe _)
   (fm_ dh [] rfl bH dw) ?_
  rintro ⟨deleted_7,updated_8,i_9⟩ st1 hb1 hk1
  unfold zaan at hb1
  dsimp only at hb1 ⊢
  rcases af hb1 with ⟨q_10,hb1⟩|⟨q_10,hb1⟩
  ·obtain ⟨x_11,i6z,i6,i6x,hb1⟩:=aY (f:=(fun x=>[AC.lst (x.map cV)])) hb1
   obtain ⟨r_12,c7,hb1⟩:=bd_ hb1
   replace c7:=xB c7
   try simp only [ag8,ag6,ag_,ag0,aC] at c7
   rcases af hb1 with ⟨q_13,hb1⟩|⟨q_13,hb1⟩
   ·obtain ⟨r_14,c8,hb1⟩:=bd_ hb1
    replace c8:=Ce c8
    obtain ⟨g9,hb1⟩:=aG hb1
    cases hb1
    refine bF ?_
    exact ⟨_,rfl,fm_ lC [] lD bH dw⟩
   obtain ⟨g10,hb1⟩:=aG hb1
   obtain ⟨g11,hb1⟩:=aG hb1
   cases hb1
   refine bF ?_
   exact ⟨_,rfl,fm_ lC [] lD bH dw⟩
  cases hb1
  have hx1:zaat a_r a_w a_t r_4 (.inl (deleted_7,updated_8,i_9))=some _:=hk1
  unfold zaat at hx1
  dsimp only at hx1
  obtain ⟨r_15,c12,hx1⟩:=bd_ hx1
  replace c12:=zaaG c12
  obtain ⟨r_16,c13,hx1⟩:=bd_ hx1
  replace c13:=zaaH c13
  try simp only [ag8,ag6,ag_,ag0,aC] at c13
  try simp only [<- ag8] at c13
  rcases af hx1 with ⟨q_17,hx1⟩|⟨q_17,hx1⟩
  ·obtain ⟨r_18,c14,hx1⟩:=bd_ hx1
   replace c14:=zaaw c14
   try simp only [ag8,ag6,ag_,ag0,aC] at c14
   obtain ⟨r_19,c15,hx1⟩:=bd_ hx1
   replace c15:=zaaH c15
   rcases af hx1 with ⟨q_20,hx1⟩|⟨q_20,hx1⟩
   ·obtain ⟨r_21,c16,hx1⟩:=bd_ hx1
    replace c16:=qK c16
    try simp only [ag8,ag6,ag_,ag0,aC] at c16
    obtain ⟨r_22,c17,hx1⟩:=bd_ hx1
    replace c17:=zaaH c17
    rcases af hx1 with ⟨q_23,hx1⟩|⟨q_23,hx1⟩
    ·have hc_24:=Aw.dD
     try simp only [ag8,ag6,ag_,ag0,aC] at hc_24
     cases hx1
     exact aD
    cases hx1
    exact aD
   cases hx1
   exact aD
  cases hx1
  exact aD
 obtain ⟨r_25,c18,H⟩:=bd_ H
 replace c18:=zaaG c18
 obtain ⟨r_26,c19,H⟩:=bd_ H
 replace c19:=zaaH c19
 rcases af H with ⟨q_27,H⟩|⟨q_27,H⟩
 ·obtain ⟨r_28,c20,H⟩:=bd_ H
  replace c20:=zaaw c20
  try simp only [ag8,ag6,ag_,ag0,aC] at c20
  obtain ⟨r_29,c21,H⟩:=bd_ H
  replace c21:=zaaH c21
  rcases af H with ⟨q_30,H⟩|⟨q_30,H⟩
  ·obtain ⟨r_31,c22,H⟩:=bd_ H
   replace c22:=qK c22
   try simp only [ag8,ag6,ag_,ag0,aC] at c22
   obtain ⟨r_32,c23,H⟩:=bd_ H
   replace c23:=zaaH c23
   rcases af H with ⟨q_33,H⟩|⟨q_33,H⟩
   ·have hc_34:=Aw.dD
    try simp only [ag8,ag6,ag_,ag0,aC] at hc_34
    cases H
    exact aD
   cases H
   exact aD
  cases H
  exact aD
 cases H
 exact aD
end
theorem XD {l:List Ex} {a:Ex->Option (List Val)} (g:Ex->Val) (ha : ∀ f∈l,a f=some [g f]) (hn:l.length<=1000000):mr l a=some (l.map g):=by
 unfold mr
 rw [df (l:=l) (fun x=>[g x]) 4398046511104 ?_ ?_ (by unfold fuel;omega) [] (by rw [dK,ag7];simp only [aho];omega)]
 ·rw [agU,ag0,dK];rfl
 ·intro s i x hx hs
  have hi:=(agV.1 hx).1
  have hm:x∈l:=ag1 hx
  unfold jg
  dsimp only
  rw [aV hx,agX,gn_ hx,agU,ha x hm,agU,wrapN (by omega),agZ hs];rfl
 ·intro s
  unfold jg
  dsimp only
  rw [lF_,agW]
theorem P6 {e:Ex} (he:fH fuel e) {s:List Ex} (hs:s.length<=1000) (hse : ∀ x∈s,fH fuel x) (f:aj) (p:aI):jP f e p s=some (Bt e s p f):=by
 unfold jP Bt iO D5 Ej
 rw [BR he,agU]
 cases ho:BL f.valid p with
 | false =>
  rw [if_neg (by intro x;cases x),Bool.false_and,if_neg (by intro x;cases x),if_neg (by intro x;cases x),ahs]
  show (bu f.row [f.valid]).bind _=_
  rw [iU _ _ (by simp),Di];rfl
 | true =>
  rw [if_pos rfl,ahr]
  cases hq:oZ e f.row with
  | false =>
   rw [if_neg (by intro x;cases x),if_neg (by intro x;cases x),ahs]
   show (bu f.row [f.valid]).bind _=_
   rw [iU _ _ (by simp),Di];rfl
  | true =>
   have hc:=N9 f.valid p
   rw [if_pos rfl,if_pos rfl]
   show ((mr s fun x0=>eZ x0 f).bind _)=_
   rw [XD (fun x=>Em x f.row) (fun x hx=>by unfold eZ;rw [(val_ok (hse x hx) f.row).2.1];rfl) (by omega),agU]
   show ((xP f.valid (Ay f.valid p)).bind _)=_
   have hd:(mW f.row (EF f.valid p)).length+(mW (s.map fun x=>Em x f.row) [Ay f.valid p]).length<=3518437208883:=by
    unfold mW
    rw [ag7,ag7]
    simp only [ahf,aho]
    omega
   rw [RN ho,agU,iU _ _ (by omega),agU]
   show ((bu (s.map fun x=>Em x f.row) [Ay f.valid p]).bind _)=_
   rw [iU _ _ (by simp),agU,agZ hd];rfl
theorem Es {l:List aj} (h:bM l) (hn:l.length<=100) (e:Ex) {s:List Ex} (hs:s.length<=1000) (hse : ∀ x∈s,fH fuel x) (p:aI):bM (l.flatMap (Bt e s p)):=by
 refine VE (by have:=bv _ 3 (rZ e s p) l;omega) fun x hx=>?_
 obtain ⟨f,hf,hx⟩:=List.mem_flatMap.1 hx
 rcases ahl.1 (show x∈iO e p f++D5 e s p f from hx) with hx|hx
 ·rw [Vi hx];exact h.2 f hf
 ·rw [VU hx];exact Oq hs hse f.row
theorem rH {l:List aj} (h:bM l) (hn:l.length<=100) {e:Ex} (he:fH fuel e) {s:List Ex} (hs:s.length<=1000) (hse : ∀ x∈s,fH fuel x) (p:aI):qa l e s p=some (canon (l.flatMap (Bt e s p))):=by
 unfold qa
 rw [EB (Bt e s p) 3 (fun f _=>P6 he hs hse f p) (rZ e s p) (by omega) (by omega),agU,qY (Es h hn e hs hse p)];rfl
theorem zaaP {l:List aj} {rows:List (List Val)} {t:Int} (hl:bM l) (hp:(aS (canon l) t).Perm rows):zaaK (canon l) rows t=some true:=by
 have hc:=bW hl
 have hlen:rows.length<=300:=by rw [<- hp.length_eq];have:=zab7 (canon l) t;have:=hc.1;omega
 have hrow : ∀ x∈rows,x.length<=1000000:=fun x hx=>by
  obtain ⟨f,hf,rfl⟩:=zado (hp.symm.subset hx)
  exact vC hc f hf
 unfold zaaK
 rw [zacB hl,agU,agX,zacZ _ _ (by have:=hc.1;omega) (vC hc),agU,FK rows hlen hrow,agU,zadg hp,zabX _ (by rw [(lS _).length_eq];omega) (fun x hx=>hrow x ((lS _).subset hx))];rfl
theorem zadI {w:cO} {old:List (List Val)} (he:fH fuel w.pred) (hs:w.sets.length<=1000) (hse : ∀ x∈w.sets,fH fuel x) (hl:old.length<=1000) : ∀ (n i:Nat) (a b:List (List Val)),i<=old.length->old.length-i<n->a.length<=i->b.length<=i ->
  ax (zaan w old) n (a,b,(i:Int))=some (.inl (a++(old.drop i).filter (fun r => !(oZ w.pred r)),b++(old.drop i).map (fun r=>if oZ w.pred r=true then qB w.sets r else r),((old.length:Nat):Int))):=by
 intro n
 induction n with
 | zero=>intro i a b _ h;omega
 | succ n ih =>
  intro i a b hi hn ha hb
  rw [ax]
  by_cases hlt:i<old.length
  ·obtain ⟨x,hx⟩:=gol_ hlt
   have e1:=(agV.1 hx).2
   rw [ahp hlt,e1,List.filter_cons,ag6]
   have hstep:zaan w old (a,b,(i:Int))=some (.next (a++(if (!(oZ w.pred x))=true then [x] else []),b++[if oZ w.pred x=true then qB w.sets x else x],((i+1:Nat):Int))):=by
    unfold zaan
    dsimp only
    rw [aV hx,agX,gn_ hx,agU,Da he,agU,wrapN (by omega),agZ (show b.length+1<=5864062014805 by omega),agZ (show a.length+1<=5864062014805 by omega)]
    show (bif oZ w.pred x then _ else _)=_
    cases hq:oZ w.pred x with
    | true =>
     rw [agX,Cf (by omega) hse,agU,if_pos rfl,Bool.not_true,if_neg (by intro q;cases q),ahs];rfl
    | false =>
     rw [agW,Bool.not_false,if_pos rfl,if_neg (by intro q;cases q)];rfl
   rw [hstep]
   show ax _ n _=_
   rw [ih (i+1) _ _ (by omega) (by omega) (by rw [ag3];split<;>simp<;>omega) (by rw [ag3];simp;omega),ahk,ahk]
   cases hq:oZ w.pred x<;>rfl
  ·have:i=old.length:=by omega
   subst this
   unfold zaan
   dsimp only
   rw [lF_,agW,ahO]
   simp
theorem zaa6 (r:dA) (w:cO) (t:Int):zaax r w t=some true:=by
 obtain ⟨b,hb,hok⟩:=kI r w
 unfold zaax
 rw [hb,agU]
 cases b with
 | false=>rfl
 | true =>
  have H:=hok rfl
  have hF:=H.rel.fcts
  have hL:=H.rel.len
  have hR:=H.rows
  have hn:r.facts.length<=100:=by omega
  have hs:w.sets.length<=1000:=by have:=H.sets;omega
  have hD:=o9 hF hn w.pred w.during
  have hU:=Es hF hn w.pred hs H.set w.during
  have hI:=H.ins hF (by omega) w.during
  have hO:=lS (aS r.facts t)
  have hOl:(xK (aS r.facts t)).length<=16:=by rw [hO.length_eq];have:=zab7 r.facts t;omega
  rw [Bool.not_true,agW,zacZ _ _ (by omega) (vC hF),agU,zaa3,agU]
  have k1:=zaeS (l:=r.facts) (rows:=w.rows) (by omega) w.during t
  have k2:=zaeV hn w.pred w.during t
  have k3:=zaeQ hn w.pred w.sets w.during t
  unfold zabp at k2 k3
  cases hc:aX w.during t with
  | true =>
   rw [hc,if_pos rfl] at k1
   rw [hc] at k2 k3
   simp only [ahr] at k2 k3
   simp only [agX,agZ (show (xK (aS r.facts t)).length<=5864062014805 by omega),agZ (show (xK (aS r.facts t)).length+w.rows.length<=5864062014805 by omega)]
   have hl:=zadI (w:=w) (old:=xK (aS r.facts t)) H.pred hs H.set (by omega) fuel 0 [] [] (ahe _) (by unfold fuel;omega) (by simp) (by simp)
   rw [List.drop_zero,ag0,ag0] at hl
   rw [show ((0:Int))=((0:Nat):Int) from rfl,hl,agU]
   unfold zaat
   dsimp only
   rw [zaaE hI,agU,zaaP hI (k1.trans (hO.symm.append_right _)),agU,agX,zaav hF hn H.pred,agU,zaaP hD (k2.trans (hO.symm.filter _)),agU,agX,rH hF hn H.pred hs H.set,agU,zaaP hU (k3.trans (hO.symm.map _))];rfl
  | false =>
   rw [hc,if_neg (by intro q;cases q),ahs] at k1
   rw [hc] at k2 k3
   have f2:(aS r.facts t).filter (fun x => !(false&&oZ w.pred x))=aS r.facts t:=List.filter_eq_self.2 fun x _=>rfl
   have f3:(aS r.facts t).map (fun x=>if (false&&oZ w.pred x)=true then qB w.sets x else x)=aS r.facts t:=by
    rw [show (fun x=>if (false&&oZ w.pred x)=true then qB w.sets x else x)=id from funext fun x=>if_neg (by intro q;cases q),List.map_id]
   rw [f2] at k2
   rw [f3] at k3
   rw [agW,zaaE hI,agU,zaaP hI (k1.trans hO.symm),agU,agX,zaav hF hn H.pred,agU,zaaP hD (k2.trans hO.symm),agU,agX,rH hF hn H.pred hs H.set,agU,zaaP hU (k3.trans hO.symm)];rfl
theorem zaa9 {r:dA} {w:cO} {t:Int} (q0:uj r) (q1:kw w) (q2:PY t):Pure Tryz.prog 6 [.agg (tL r), .agg (iB w), .one (.int .i64 t)] (.val (.one (.bool true))):=zabt (zaa6 r w t)
end Go.Proofs.YtcehmafobkhdbaaGreatDoor
