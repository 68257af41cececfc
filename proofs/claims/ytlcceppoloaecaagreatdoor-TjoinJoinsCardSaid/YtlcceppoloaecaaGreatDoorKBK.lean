/- Parts of the proof, joined. No condition. -/
import Derived.Test.YtlcceppoloaecaaGreatDoorKAA
import Derived.Test.YtlcceppoloaecaaGreatDoorKBJ
import Derived.Test.YtlcceppoloaecaaGreatDoorKBG
import Derived.Test.YtlcceppoloaecaaGreatDoorKBH
import Derived.Test.YtlcceppoloaecaaGreatDoorKAI
import Derived.Test.YtlcceppoloaecaaGreatDoorKAL
import Derived.Shelf.Spec.SlicesGrow
import Derived.Shelf.SlGeneric
import Derived.Test.YtlcceppoloaecaaGreatDoorProg
import Derived.Test.YtlcceppoloaecaaGreatDoorKAH
import Derived.Test.YtlcceppoloaecaaGreatDoorKAK
set_option linter.unusedSimpArgs false
set_option linter.unusedVariables false
namespace Go.Proofs.YtlcceppoloaecaaGreatDoor
open Go.RowKit Go.MapKept
set_option maxRecDepth 100000
def tF (l:List aC):AC := .lst (l.map aU)
theorem TA {α:Type} (q:α->Bool) (y:α) : ∀ (b:List α) (k:Nat),mZ q (b++[y]) k=mZ q b k++(bif q y then [((k+b.length:Nat):Int)] else [])
 | [],k=>by simp [mZ]
 | x::b,k=>by
  rw [List.cons_append,mZ,mZ,TA q y b (k+1),aqp,aqk,show k+1+b.length=k+(b.length+1) by omega]
theorem rO (n v k:Nat) (l:List Int):(Ob.row v (l.map gI) k).below n:=by
 intro e he x hx
 obtain ⟨y,_,rfl⟩:=aqz.1 he
 simp [gI] at hx;subst hx;trivial
theorem E5 (n v k:Nat) (l:List eF):(Ob.row v (l.map XY) k).below n:=by
 intro e he x hx
 obtain ⟨y,_,rfl⟩:=aqz.1 he
 simp [XY] at hx;rcases hx with rfl|rfl<;>trivial
theorem Wu (σ:List Nat) (v:Nat) (l:List Int):(Ob.row v (l.map gI) 1).ren σ=Ob.row v (l.map gI) 1:=by
 simp only [Ob.ren,List.map_map];rfl
theorem rfI {L:List Ob} {v:Nat} {l:List Int} {id:Nat} {x:AV} {xs:List AV} (h0:L[id]?=some (Ob.row v (l.map gI) 1)) (hx : ∀ y∈x::xs,y.below 1):kW [id] [Ob.row v (l.map gI) 1] (x::xs) L:=by
 refine ⟨rfl,by simp,fun i y hy=>?_,bT ⟨rO _ _ _ _,trivial⟩,hx⟩
 match i,hy with
 | 0,hy=>simp at hy;subst hy;rw [Wu];exact h0
 | i+1,hy=>simp at hy
theorem jI {L L':List Ob} {v:Nat} {l:List Int} {id:Nat} (h:L.set id (Ob.row v (l.map gI) 1)=L'):joinL [id] L [Ob.row v (l.map gI) 1]=L':=by
 subst h
 simp [joinL,join,fJ,dK,jF,Wu]
def vI (n:Nat):Nat:=3+65536+65536*n
def vP (n:Nat):Nat:=63+65536+65536*n
theorem aef (l:List eF):iC (l.map XY)=some (l.map m_):=by
 have:=nA (l.map m_)
 rw [List.map_map] at this
 exact this
def pQ (b:List aC) (f:aP) (o:List Int) (j:Nat):List Int:=(o.take j).filter fun k=>decide (f.lo<(kF b k).hi)
theorem abe {b:List aC} {f:aP} {o:List Int} {j:Nat} {k:Int} (h:o[j]?=some k):pQ b f o (j+1)=pQ b f o j++(bif decide (f.lo<(kF b k).hi) then [k] else []):=by
 unfold pQ
 rw [dw h,List.filter_append]
 cases hd:decide (f.lo<(kF b k).hi)<;>simp [List.filter,hd]
theorem ad' (b:List aC) (f:aP) (o:List Int) (j:Nat):(pQ b f o j).length<=o.length:=by
 unfold pQ
 refine Nat.le_trans (List.length_filter_le _ _) ?_
 rw [aqQ]
 exact Nat.min_le_right _ _
theorem ak_ (p:Int->Bool) : ∀ (o:List Int) (j:Nat),(∀ k∈o.take j,p k=true)->(∀ k,o[j]?=some k->p k=false)->o.takeWhile p=o.take j
 | [],j,_,_=>by simp
 | x::o,0,_,h=>by simp [List.takeWhile,h x rfl]
 | x::o,j+1,h1,h2=>by
  rw [List.take_succ_cons,List.takeWhile,h1 x (by simp)]
  show x::_=_
  rw [ak_ p o j (fun k hk=>h1 k (by simp [hk])) (fun k hk=>h2 k (by simpa using hk))]
theorem aiB {b:List aC} {o:List Int} {x:aC} {i j:Nat} {d:List eF} (hop:o.Perm (mZ (fun y:aC=>aD y.valid) b 0)) (hos:o.Pairwise fun x y => ¬ wZ b y<wZ b x) (hv:aD x.valid=true)
  (h1 : ∀ k∈o.take j,(kF b k).lo<x.valid.hi) (h2 : ∀ k,o[j]?=some k -> ¬ (kF b k).lo<x.valid.hi) (hp:d.Perm ((pQ b x.valid o j).map fun k=>(⟨i,k⟩:eF))) (hs:d.Pairwise fun x y => ¬ y.b<x.b):d=sH (fun y:aC=>nQ x.valid y.valid) i b 0:=by
 have e:adg b o x.valid=pQ b x.valid o j:=by
  unfold adg pQ
  rw [ak_ (fun k=>decide ((kF b k).lo<x.valid.hi)) o j (fun k hk=>by simpa using h1 k hk) (fun k hk=>by simpa using h2 k hk)]
 have hlo : ∀ k,wZ b k=(kF b k).lo:=fun k=>by unfold wZ kF;cases b[k.toNat]?<;>rfl
 refine afC hp hs (e▸aeD hop ?_ hv) (Oh _ _ _)
 refine hos.imp ?_
 intro x y h
 rw [<- hlo, <- hlo];exact h
theorem Xa (σ:List Nat) (v:Nat) (l:List eF):(Ob.row v (l.map XY) 2).ren σ=Ob.row v (l.map XY) 2:=by
 simp only [Ob.ren,List.map_map];rfl
theorem rfP {L:List Ob} {v:Nat} {l:List eF} {id:Nat} {x:AV} {xs:List AV} (h0:L[id]?=some (Ob.row v (l.map XY) 2)) (hx : ∀ y∈x::xs,y.below 1):kW [id] [Ob.row v (l.map XY) 2] (x::xs) L:=by
 refine ⟨rfl,by simp,fun i y hy=>?_,bT ⟨E5 1 _ _ _,trivial⟩,hx⟩
 match i,hy with
 | 0,hy=>simp at hy;subst hy;rw [Xa];exact h0
 | i+1,hy=>simp at hy
theorem jP {L L':List Ob} {v:Nat} {l:List eF} {id:Nat} (h:L.set id (Ob.row v (l.map XY) 2)=L'):joinL [id] L [Ob.row v (l.map XY) 2]=L':=by
 subst h
 simp [joinL,join,fJ,dK,jF,Xa]
def IT (a b:List aC) (n p m i j:Nat):Tm:=[(3, .one (.c (.ref [tF b]))),(5, .one (.sl 1 (vI n) 0 n)),(8, .one (.sl 2 (vP m) 0 m)),(9, .one (.c (.int .i64 i))),(10, .one (.ptr 3 0)),(11, .one (.c (.int .i64 p))),(32, .one (.c (tF a))),(33, .one (.c (.int .i64 a.length))),(34, .one (.c (.int .i64 i))),(45, .one (.sl 1 (vI n) 0 n)),(46, .one (.c (.int .i64 n))),(47, .one (.c (.int .i64 j)))]
theorem NY (a b:List aC) (n p m i j:Nat):mh 4 (IT a b n p m i j):=⟨trivial,(by show 1<4;omega),(by show 2<4;omega),trivial,(by show 3<4;omega),trivial,trivial,trivial,trivial,(by show 1<4;omega),trivial,trivial,trivial⟩
theorem Pq (v w:Nat) (o:List Int) (p:List eF) (x:aC):vJ 4 [.dead, .row v (o.map gI) 1, .row w (p.map XY) 2, .box ((aU x).map SV.c)]:=⟨trivial,rO _ _ _ _,E5 _ _ _ _,(by intro y hy;obtain ⟨z,_,rfl⟩:=aqz.1 hy;trivial),trivial⟩
def prK (a b:List aC) (i:Nat):List eF:=fG (fun x y:aC=>nQ x.valid y.valid) b (a.take i) 0
theorem TU {α:Type} {q:α->Bool} (h : ∀ y,q y=false) : ∀ (b:List α) (k:Nat),mZ q b k=[]
 | [],_=>rfl
 | x::b,k=>by rw [mZ,h,TU h b];rfl
theorem Tp {α:Type} (q:α->α->Bool) (b:List α) (x:α) : ∀ (a:List α) (k:Nat),fG q b (a++[x]) k=fG q b a k++sH (q x) ((k+a.length:Nat):Int) b 0
 | [],k=>by simp [fG]
 | y::a,k=>by
  rw [List.cons_append,fG,fG,Tp q b x a (k+1),aqp,aqk,show k+1+a.length=k+(a.length+1) by omega]
theorem agj {a b:List aC} {i:Nat} {x:aC} (hx:a[i]?=some x):prK a b (i+1)=prK a b i++sH (fun y:aC=>nQ x.valid y.valid) i b 0:=by
 unfold prK
 have hi:i<a.length:=by
  rcases Nat.lt_or_ge i a.length with h|h
  ·exact h
  ·rw [aqN h] at hx;cases hx
 rw [dw hx,Tp,aqQ,aqH,Nat.min_eq_left (by omega)]
theorem F_ {α:Type} (q:α->α->Bool) (b:List α) : ∀ (a:List α) (k:Nat),(fG q b a k).length<=a.length*b.length
 | [],_=>aqj _
 | x::a,k=>by
  rw [fG,ap8,aqk,Nat.succ_mul]
  have h1:=F_ q b a (k+1)
  have h2:(sH (q x) (k:Int) b 0).length<=b.length:=by unfold sH;rw [aqa];exact FO _ _ _
  omega
theorem ajz {a b:List aC} {i:Nat} (hi:i<a.length) (hb:b.length<=1000):(prK a b i).length<=i*1000:=by
 have:=F_ (fun x y:aC=>nQ x.valid y.valid) b (a.take i) 0
 rw [aqQ,Nat.min_eq_left (by omega)] at this
 exact Nat.le_trans this (Nat.mul_le_mul_left _ hb)
def OT (a b:List aC) (n m i:Nat):Tm:=[(3, .one (.c (.ref [tF b]))),(5, .one (.sl 1 (vI n) 0 n)),(8, .one (.sl 2 (vP m) 0 m)),(32, .one (.c (tF a))),(33, .one (.c (.int .i64 a.length))),(34, .one (.c (.int .i64 i)))]
theorem H_ (a b:List aC) (n m i k:Nat):mh (k+3) (OT a b n m i):=⟨trivial,(by show 1<k+3;omega),(by show 2<k+3;omega),trivial,trivial,trivial,trivial⟩
theorem Hu (v w:Nat) (o:List Int) (p:List eF):vJ 3 [.dead, .row v (o.map gI) 1, .row w (p.map XY) 2]:=⟨trivial,rO _ _ _ _,E5 _ _ _ _,trivial⟩
def rC (b:List aC) (i:Nat):List Int:=mZ (fun y:aC=>aD y.valid) (b.take i) 0
set_option maxHeartbeats 4000000 in
theorem MG (a b:List aC) (ha:a.length<=1000) (hb:b.length<=1000):Pure Tryz.prog 12 [.one (tF a), .one (tF b)] (.val (.one (.lst ((fG (fun x y:aC=>nQ x.valid y.valid) b a 0).map m_)))):=by
 have hB:=hb
 refine pa_ aj Tryz.func12 rfl rfl Tryz.ntmps12 (by simp) ?_
 simp only [argT,PV.av,ap',aqd]
 repeat' (first
  | refine st_nil ?_
  | (refine aM rfl rfl rfl rfl ?_ ?_; · (repeat' (first|exact trivial|rfl|exact ap_ rfl|omega|exact aF (by intro _;rfl) _|(intro e he;simp at he;subst he;rfl)|apply And.intro)))
  | (refine aN rfl rfl rfl rfl ?_ ?_; · (repeat' (first|exact trivial|rfl|exact ap_ rfl|omega|exact aF (by intro _;rfl) _|(intro e he;simp at he;subst he;rfl)|apply And.intro)))
  | (refine sS_ rfl rfl rfl ?_ ?_; · (repeat' (first|exact trivial|rfl|exact ap_ rfl|omega|exact aF (by intro _;rfl) _|(intro e he;simp at he;subst he;rfl)|apply And.intro)))
  | (refine aO rfl rfl rfl rfl ?_ ?_; · (repeat' (first|exact trivial|rfl|exact ap_ rfl|omega|exact aF (by intro _;rfl) _|(intro e he;simp at he;subst he;rfl)|apply And.intro)))
  | refine aH rfl rfl rfl ?_
  | refine sk0_ rfl rfl ?_
  | (refine aV rfl (fun hb=>?_) (fun hb=>?_)<;>(first|exact (fx_ hb).elim|rw [hb]))
  | refine aw_seq ?_
  | refine aw_region aj _ rfl ?_
  | refine aw_drawn2 tabS_ok _ rfl mixed (by decide +kernel) ?_
  | (refine aG rfl (fun hb=>?_) (fun hb=>?_)<;>(try exact (fx_ hb).elim))
  | refine aw_block ?_
  | refine aw_exit ?_
  | refine aw_ret ?_
  | refine aw_skip ?_)
 refine Da 5 (vI 0) 1 rfl (by unfold vI;omega) ?_
 refine eH (fun i:Nat=>[(0, .one (.c (tF a))),(3, .one (.ptr 0 0)),(5, .one (.sl 1 (vI (rC b i).length) 0 (rC b i).length)),(14, .one (.c (tF b))),(15, .one (.c (.int .i64 b.length))),(16, .one (.c (.int .i64 i)))])
  (fun i=>[.box [.c (tF b)], .row (vI (rC b i).length) ((rC b i).map gI) 1]) (fun i=>i<=b.length) (fun i=>b.length-i) 0 (by omega) (fun _ _=>aqj _)
  (fm_ ⟨rfl,rfl,rfl,rfl,bB (by simp),rfl,trivial⟩ [] rfl ⟨trivial,(by show 0<2;omega),(by show 1<2;omega),trivial,trivial,trivial,trivial⟩ ⟨(by intro x hx;simp at hx;subst hx;trivial),rO _ _ _ _,trivial⟩) ?_
 ·intro i hi
  have BELT : ∀ j,mh 2 [(0,AV.one (.c (tF a))),(3, .one (.ptr 0 0)),(5, .one (.sl 1 (vI (rC b j).length) 0 (rC b j).length)),(14, .one (.c (tF b))),(15, .one (.c (.int .i64 b.length))),(16, .one (.c (.int .i64 j)))]:=fun j=>⟨trivial,(by show 0<2;omega),(by show 1<2;omega),trivial,trivial,trivial,trivial⟩
  have BELL : ∀ j,vJ 2 [Ob.box [.c (tF b)], .row (vI (rC b j).length) ((rC b j).map gI) 1]:=fun j=>⟨(by intro x hx;simp at hx;subst hx;trivial),rO _ _ _ _,trivial⟩
  by_cases hlt:i<b.length
  ·obtain ⟨x,hx⟩:=gol_ hlt
   have hpv:=yQ (lm x.valid)
   have hnx:rC b (i+1)=rC b i++(bif aD x.valid then [(i:Int)] else []):=by
    unfold rC
    rw [dw hx,TA,aqQ,aqH,Nat.min_eq_left (by omega)]
   have hle:(rC b i).length<=1000:=by have:=FO (fun y:aC=>aD y.valid) (b.take i) 0;rw [aqQ] at this;unfold rC;omega
   generalize rC b i=o at hnx hle
   cases hv:aD x.valid with
   | true =>
    rw [hv] at hpv hnx
    rw [ap2] at hnx
    have hl:(rC b (i+1)).length=o.length+1:=by rw [hnx];simp
    have hv1:vI (o.length+1)=vI o.length+65536:=by unfold vI;omega
    have hm:(o.map gI).length=o.length:=by simp
    repeat' (first
     | refine st_nil ?_
     | (refine dS rfl rfl rfl rfl rfl (iD aj (k:=1) (by_:=8) (xs:=[gI i]) rfl rfl rfl rfl ⟨rfl,_,rfl,by intro e he;simp at he;subst he;rfl⟩ rfl (by unfold vI;omega) rfl rfl rfl (by decide) hm (by simp only [List.length_singleton];omega) (by simp only [List.length_singleton];omega)) ?_)
     | (refine aM rfl rfl rfl rfl ?_ ?_; · (repeat' (first|exact trivial|rfl|exact ap_ rfl|omega|exact aF (by intro _;rfl) _|(intro e he;simp at he;subst he;rfl)|apply And.intro)))
     | (refine dm rfl rfl rfl rfl rfl rfl rfl rfl (cZ hx) ?_ ?_; · exact ⟨by omega,rfl⟩)
     | (refine aN rfl rfl rfl rfl ?_ ?_; · (repeat' (first|exact trivial|rfl|exact ap_ rfl|omega|exact aF (by intro _;rfl) _|(intro e he;simp at he;subst he;rfl)|apply And.intro)))
     | (refine sS_ rfl rfl rfl ?_ ?_; · (repeat' (first|exact trivial|rfl|exact ap_ rfl|omega|exact aF (by intro _;rfl) _|(intro e he;simp at he;subst he;rfl)|apply And.intro)))
     | (refine aO rfl rfl rfl rfl ?_ ?_; · (repeat' (first|exact trivial|rfl|exact ap_ rfl|omega|exact aF (by intro _;rfl) _|(intro e he;simp at he;subst he;rfl)|apply And.intro)))
     | refine aH rfl rfl rfl ?_
     | refine sk0_ rfl rfl ?_
     | refine aZ rfl rfl rfl rfl hpv rfl ?_
     | (refine aV rfl (fun hb=>?_) (fun hb=>?_)<;>(first|exact (fx_ hb).elim|rw [hb]))
     | refine aw_seq ?_
     | refine aw_region aj _ rfl ?_
     | refine aw_drawn2 tabS_ok _ rfl mixed (by decide +kernel) ?_
     | (refine aG rfl (fun hb=>?_) (fun hb=>?_)<;>(try exact (fx_ hb).elim))
     | refine aw_block ?_
     | refine aw_exit ?_
     | refine aw_ret ?_
     | refine aw_skip ?_)
    exact ⟨i+1,by omega,by omega,fm_ ⟨rfl,rfl,(by rw [hl,hv1];rfl),rfl,rfl,bB (bF (by omega) (by omega)),trivial⟩ [_] (by rw [hl,hv1,hnx,aqb];rfl) (BELT _) (BELL _)⟩
   | false =>
    rw [hv] at hpv hnx
    rw [ap1,aqy] at hnx
    repeat' (first
     | refine st_nil ?_
     | (refine aM rfl rfl rfl rfl ?_ ?_; · (repeat' (first|exact trivial|rfl|exact ap_ rfl|omega|exact aF (by intro _;rfl) _|(intro e he;simp at he;subst he;rfl)|apply And.intro)))
     | (refine dm rfl rfl rfl rfl rfl rfl rfl rfl (cZ hx) ?_ ?_; · exact ⟨by omega,rfl⟩)
     | (refine aN rfl rfl rfl rfl ?_ ?_; · (repeat' (first|exact trivial|rfl|exact ap_ rfl|omega|exact aF (by intro _;rfl) _|(intro e he;simp at he;subst he;rfl)|apply And.intro)))
     | (refine sS_ rfl rfl rfl ?_ ?_; · (repeat' (first|exact trivial|rfl|exact ap_ rfl|omega|exact aF (by intro _;rfl) _|(intro e he;simp at he;subst he;rfl)|apply And.intro)))
     | (refine aO rfl rfl rfl rfl ?_ ?_; · (repeat' (first|exact trivial|rfl|exact ap_ rfl|omega|exact aF (by intro _;rfl) _|(intro e he;simp at he;subst he;rfl)|apply And.intro)))
     | refine aH rfl rfl rfl ?_
     | refine sk0_ rfl rfl ?_
     | refine aZ rfl rfl rfl rfl hpv rfl ?_
     | (refine aV rfl (fun hb=>?_) (fun hb=>?_)<;>(first|exact (fx_ hb).elim|rw [hb]))
     | refine aw_seq ?_
     | refine aw_region aj _ rfl ?_
     | refine aw_drawn2 tabS_ok _ rfl mixed (by decide +kernel) ?_
     | (refine aG rfl (fun hb=>?_) (fun hb=>?_)<;>(try exact (fx_ hb).elim))
     | refine aw_block ?_
     | refine aw_exit ?_
     | refine aw_ret ?_
     | refine aw_skip ?_)
    exact ⟨i+1,by omega,by omega,fm_ ⟨rfl,rfl,(by rw [hnx];rfl),rfl,rfl,bB (bF (by omega) (by omega)),trivial⟩ [_] (by rw [hnx];rfl) (BELT _) (BELL _)⟩
  ·have hi2:i=b.length:=by omega
   subst hi2
   have ho:rC b b.length=mZ (fun y:aC=>aD y.valid) b 0:=by unfold rC;rw [List.take_length]
   have hor : ∀ k∈rC b b.length,0<=k/\k<(b.length:Int):=fun k hk=>by
    rw [ho] at hk
    have:=L8 _ b 0 k hk
    omega
   have hle:(rC b b.length).length<=1000:=by rw [ho];have:=FO (fun y:aC=>aD y.valid) b 0;omega
   obtain ⟨o,hop,hos,hsort⟩:=Yn hb hor (vI (rC b b.length).length) (rC b b.length).length rfl (by omega)
   rw [ho] at hop
   have hon:o.length=(rC b b.length).length:=by rw [ho];exact hop.length_eq
   generalize rC b b.length=o0 at hsort hle hon ⊢
   repeat' (first
    | refine st_nil ?_
    | (refine bu 0 (cs:=[.c (tF b)]) (ts:=[tF b]) rfl rfl ?_)
    | (refine aM rfl rfl rfl rfl ?_ ?_; · (repeat' (first|exact trivial|rfl|exact ap_ rfl|omega|exact aF (by intro _;rfl) _|(intro e he;simp at he;subst he;rfl)|apply And.intro)))
    | (refine aN rfl rfl rfl rfl ?_ ?_; · (repeat' (first|exact trivial|rfl|exact ap_ rfl|omega|exact aF (by intro _;rfl) _|(intro e he;simp at he;subst he;rfl)|apply And.intro)))
    | (refine sS_ rfl rfl rfl ?_ ?_; · (repeat' (first|exact trivial|rfl|exact ap_ rfl|omega|exact aF (by intro _;rfl) _|(intro e he;simp at he;subst he;rfl)|apply And.intro)))
    | (refine aO rfl rfl rfl rfl ?_ ?_; · (repeat' (first|exact trivial|rfl|exact ap_ rfl|omega|exact aF (by intro _;rfl) _|(intro e he;simp at he;subst he;rfl)|apply And.intro)))
    | refine aH rfl rfl rfl ?_
    | refine sk0_ rfl rfl ?_
    | (refine eP [1] rfl rfl rfl rfl hsort rfl (rfI rfl (dE ⟨(by show 0<1;omega),trivial,trivial⟩)) rfl (jI rfl) ?_)
    | (refine aV rfl (fun hb=>?_) (fun hb=>?_)<;>(first|exact (fx_ hb).elim|rw [hb]))
    | refine aw_seq ?_
    | refine aw_region aj _ rfl ?_
    | refine aw_drawn2 tabS_ok _ rfl mixed (by decide +kernel) ?_
    | (refine aG rfl (fun hb=>?_) (fun hb=>?_)<;>(try exact (fx_ hb).elim))
    | refine aw_block ?_
    | refine aw_exit ?_
    | refine aw_ret ?_
    | refine aw_skip ?_)
   refine Da 8 (vP 0) 2 rfl (by unfold vP;omega) ?_
   refine eH (fun i:Nat=>OT a b o0.length (prK a b i).length i) (fun i=>[.dead, .row (vI o0.length) (o.map gI) 1, .row (vP (prK a b i).length) ((prK a b i).map XY) 2]) (fun i=>i<=a.length) (fun i=>a.length-i) 0 (by omega) (fun _ _=>aqj _)
    (fm_ ⟨rfl,rfl,rfl,rfl,bB (by simp),rfl,trivial⟩ [] rfl (H_ a b _ _ _ 0) (Hu _ _ _ _)) ?_
   intro i hi
   by_cases hlt:i<a.length
   ·obtain ⟨x,hx⟩:=gol_ hlt
    have hpv:=yQ (lm x.valid)
    have hnx:=agj (b:=b) hx
    have hpl:=ajz hlt hB
    unfold OT
    generalize prK a b i=pr at hnx hpl ⊢
    cases hv:aD x.valid with
    | false =>
     rw [hv] at hpv
     repeat' (first
      | refine st_nil ?_
      | (refine aM rfl rfl rfl rfl ?_ ?_; · (repeat' (first|exact trivial|rfl|exact ap_ rfl|omega|exact aF (by intro _;rfl) _|(intro e he;simp at he;subst he;rfl)|apply And.intro)))
      | (refine dm rfl rfl rfl rfl rfl rfl rfl rfl (cZ hx) ?_ ?_; · exact ⟨by omega,rfl⟩)
      | (refine aN rfl rfl rfl rfl ?_ ?_; · (repeat' (first|exact trivial|rfl|exact ap_ rfl|omega|exact aF (by intro _;rfl) _|(intro e he;simp at he;subst he;rfl)|apply And.intro)))
      | (refine sS_ rfl rfl rfl ?_ ?_; · (repeat' (first|exact trivial|rfl|exact ap_ rfl|omega|exact aF (by intro _;rfl) _|(intro e he;simp at he;subst he;rfl)|apply And.intro)))
      | (refine aO rfl rfl rfl rfl ?_ ?_; · (repeat' (first|exact trivial|rfl|exact ap_ rfl|omega|exact aF (by intro _;rfl) _|(intro e he;simp at he;subst he;rfl)|apply And.intro)))
      | refine aH rfl rfl rfl ?_
      | refine sk0_ rfl rfl ?_
      | refine aZ rfl rfl rfl rfl hpv rfl ?_
      | (refine aV rfl (fun hb=>?_) (fun hb=>?_)<;>(first|exact (fx_ hb).elim|rw [hb]))
      | refine aw_seq ?_
      | refine aw_region aj _ rfl ?_
      | refine aw_drawn2 tabS_ok _ rfl mixed (by decide +kernel) ?_
      | (refine aG rfl (fun hb=>?_) (fun hb=>?_)<;>(try exact (fx_ hb).elim))
      | refine aw_block ?_
      | refine aw_exit ?_
      | refine aw_ret ?_
      | refine aw_skip ?_
      | refine Bf ?_
      | refine Be ?_)
     have hz:prK a b (i+1)=pr:=by
      rw [hnx,sH,TU (q:=fun y:aC=>nQ x.valid y.valid) (fun y=>by unfold nQ;rw [hv];rfl)]
      simp
     exact ⟨i+1,by omega,by omega,fm_ ⟨rfl,rfl,(by rw [hz];rfl),rfl,rfl,bB (bF (by omega) (by omega)),trivial⟩ [_] (by rw [hz];rfl) (H_ a b _ _ _ 0) (Hu _ _ _ _)⟩
    | true =>
     rw [hv] at hpv
     repeat' (first
      | refine st_nil ?_
      | (refine aM rfl rfl rfl rfl ?_ ?_; · (repeat' (first|exact trivial|rfl|exact ap_ rfl|omega|exact aF (by intro _;rfl) _|(intro e he;simp at he;subst he;rfl)|apply And.intro)))
      | (refine dm rfl rfl rfl rfl rfl rfl rfl rfl (cZ hx) ?_ ?_; · exact ⟨by omega,rfl⟩)
      | (refine aN rfl rfl rfl rfl ?_ ?_; · (repeat' (first|exact trivial|rfl|exact ap_ rfl|omega|exact aF (by intro _;rfl) _|(intro e he;simp at he;subst he;rfl)|apply And.intro)))
      | (refine sS_ rfl rfl rfl ?_ ?_; · (repeat' (first|exact trivial|rfl|exact ap_ rfl|omega|exact aF (by intro _;rfl) _|(intro e he;simp at he;subst he;rfl)|apply And.intro)))
      | (refine aO rfl rfl rfl rfl ?_ ?_; · (repeat' (first|exact trivial|rfl|exact ap_ rfl|omega|exact aF (by intro _;rfl) _|(intro e he;simp at he;subst he;rfl)|apply And.intro)))
      | refine aH rfl rfl rfl ?_
      | refine sk0_ rfl rfl ?_
      | refine aZ rfl rfl rfl rfl hpv rfl ?_
      | (refine aV rfl (fun hb=>?_) (fun hb=>?_)<;>(first|exact (fx_ hb).elim|rw [hb]))
      | refine aw_seq ?_
      | refine aw_region aj _ rfl ?_
      | refine aw_drawn2 tabS_ok _ rfl mixed (by decide +kernel) ?_
      | (refine aG rfl (fun hb=>?_) (fun hb=>?_)<;>(try exact (fx_ hb).elim))
      | refine aw_block ?_
      | refine aw_exit ?_
      | refine aw_ret ?_
      | refine aw_skip ?_
      | refine Bf ?_
      | refine Be ?_)
     refine eH (fun j:Nat=>IT a b o0.length pr.length (pr.length+(pQ b x.valid o j).length) i j) (fun j=>[.dead, .row (vI o0.length) (o.map gI) 1, .row (vP (pr.length+(pQ b x.valid o j).length)) ((pr++(pQ b x.valid o j).map fun k=>(⟨i,k⟩:eF)).map XY) 2, .box ((aU x).map SV.c)])
      (fun j=>j<=o0.length /\ ∀ k∈o.take j,(kF b k).lo<x.valid.hi) (fun j=>o0.length-j) 0 ⟨by omega,by intro k hk;simp at hk⟩ (fun _ _=>aqj _)
      (fm_ ⟨rfl,rfl,rfl,rfl,rfl,rfl,rfl,rfl,rfl,rfl,rfl,bB (by simp),trivial⟩ [] (by simp [pQ];rfl) (NY _ _ _ _ _ _ _) (Pq _ _ _ _ _)) ?_
     rintro j ⟨hj,hbel⟩
     have hsl:=ad' b x.valid o j
     have hsu:=fun k=>abe (b:=b) (f:=x.valid) (o:=o) (j:=j) (k:=k)
     obtain ⟨d,hdp,hds,hrun⟩:=aah pr ((pQ b x.valid o j).map fun k=>(⟨i,k⟩:eF)) (vP (pr.length+(pQ b x.valid o j).length)) (0+pr.length) (pr.length+(pQ b x.valid o j).length-pr.length) (by simp) (by simp) (by omega)
     have hfin:=fun h2=>aiB hop hos hv hbel h2 hdp hds
     have hdl:=hdp.length_eq
     rw [aqa] at hdl
     unfold IT
     generalize pQ b x.valid o j=ss at hsl hsu hrun hdl ⊢
     by_cases hjl:j<o0.length
     ·obtain ⟨k,hk⟩:=gol_ (l:=o) (i:=j) (by omega)
      have hkr:0<=k/\k<(b.length:Int):=by
       have h1:=hop.mem_iff.1 (ap6 hk)
       have:=L8 _ b 0 k h1
       omega
      obtain ⟨hk0,hkb⟩:=hkr
      obtain ⟨y,hy⟩:=gol_ (l:=b) (i:=k.toNat) (by omega)
      have hpa:kF b k=y.valid:=by unfold kF;rw [hy]
      have hgk:(o.map gI)[0+j]?=some (gI k):=by rw [aqH,aql,hk];rfl
      have hv1:vP (pr.length+ss.length+1)=vP (pr.length+ss.length)+65536:=by unfold vP;omega
      have hm:((pr++ss.map fun k=>(⟨i,k⟩:eF)).map XY).length=pr.length+ss.length:=by simp
      repeat' (first
       | refine st_nil ?_
       | (refine dS rfl rfl rfl rfl rfl (iD aj (k:=2) (by_:=16) (xs:=[XY ⟨i,k⟩]) rfl rfl rfl rfl ⟨rfl,_,rfl,by intro e he;simp at he;subst he;rfl⟩ rfl (by unfold vP;omega) rfl rfl rfl (by decide) hm (by simp only [List.length_singleton];omega) (by simp only [List.length_singleton];omega)) ?_)
       | (refine sP rfl rfl rfl rfl rfl rfl rfl (e:=gI k) (by exact hgk) rfl ?_)
       | (refine aM rfl rfl rfl rfl ?_ ?_; · (repeat' (first|exact trivial|rfl|exact ap_ rfl|omega|exact aF (by intro _;rfl) _|(intro e he;simp at he;subst he;rfl)|apply And.intro)))
       | (refine dm rfl rfl rfl rfl rfl rfl rfl rfl (cZ hy) ?_ ?_; · exact ⟨by omega,rfl⟩)
       | (refine aN rfl rfl rfl rfl ?_ ?_; · (repeat' (first|exact trivial|rfl|exact ap_ rfl|omega|exact aF (by intro _;rfl) _|(intro e he;simp at he;subst he;rfl)|apply And.intro)))
       | (refine sS_ rfl rfl rfl ?_ ?_; · (repeat' (first|exact trivial|rfl|exact ap_ rfl|omega|exact aF (by intro _;rfl) _|(intro e he;simp at he;subst he;rfl)|apply And.intro)))
       | (refine aO rfl rfl rfl rfl ?_ ?_; · (repeat' (first|exact trivial|rfl|exact ap_ rfl|omega|exact aF (by intro _;rfl) _|(intro e he;simp at he;subst he;rfl)|apply And.intro)))
       | refine aH rfl rfl rfl ?_
       | refine sk0_ rfl rfl ?_
       | (refine eP [2] rfl rfl rfl rfl hrun rfl (rfP rfl (dE ⟨(by show 0<1;omega),trivial,trivial⟩)) rfl (jP rfl) ?_)
       | (refine aV rfl (fun hb=>?_) (fun hb=>?_)<;>(first|exact (fx_ hb).elim|rw [hb]))
       | refine aw_seq ?_
       | refine aw_region aj _ rfl ?_
       | refine aw_drawn2 tabS_ok _ rfl mixed (by decide +kernel) ?_
       | (refine aG rfl (fun hb=>?_) (fun hb=>?_)<;>(try exact (fx_ hb).elim))
       | refine aw_block ?_
       | refine aw_exit ?_
       | refine aw_ret ?_
       | refine aw_skip ?_
       | refine Bf ?_
       | refine Be ?_)
      ·have hd2:=hfin fun k' hk'=>by
        have:k'=k:=aqw (hk'.symm.trans hk)
        subst this
        rw [hpa]
        have:=aqs hb
        omega
       rw [<- hd2] at hnx
       have hpl2:(prK a b (i+1)).length=pr.length+ss.length:=by rw [hnx,ap8,hdl]
       exact ⟨i+1,by omega,by omega,fm_ ⟨rfl,rfl,(by rw [hpl2];rfl),rfl,rfl,bB (bF (by omega) (by omega)),trivial⟩ [_] (by rw [hpl2,hnx];rfl) (H_ a b _ _ _ 0) (Hu _ _ _ _)⟩
      ·rename_i h1 h2
       have hc:decide (x.valid.lo<(kF b k).hi)=true:=by rw [hpa];exact hb
       have hs:=hsu k hk
       rw [hc,ap2] at hs
       have hbl : ∀ k'∈o.take (j+1),(kF b k').lo<x.valid.hi:=by
        intro k' hk'
        rw [dw hk,aqr] at hk'
        rcases hk' with h|h
        ·exact hbel k' h
        ·simp at h;subst h;rw [hpa];have:=of_decide_eq_false h2;omega
       have hl:(pQ b x.valid o (j+1)).length=ss.length+1:=by rw [hs];simp
       exact ⟨j+1,⟨by omega,hbl⟩,by omega,fm_ ⟨rfl,rfl,(by rw [hl, <- Nat.add_assoc,hv1];rfl),rfl,rfl,rfl,rfl,rfl,rfl,rfl,rfl,bB (bF (by omega) (by omega)),trivial⟩ [] (by rw [hl, <- Nat.add_assoc,hv1,hs];simp) (NY _ _ _ _ _ _ _) (Pq _ _ _ _ _)⟩
      ·rename_i h1 h2
       have hc:decide (x.valid.lo<(kF b k).hi)=false:=by rw [hpa];exact hb
       have hs:=hsu k hk
       rw [hc,ap1,aqy] at hs
       have hbl : ∀ k'∈o.take (j+1),(kF b k').lo<x.valid.hi:=by
        intro k' hk'
        rw [dw hk,aqr] at hk'
        rcases hk' with h|h
        ·exact hbel k' h
        ·simp at h;subst h;rw [hpa];have:=of_decide_eq_false h2;omega
       exact ⟨j+1,⟨by omega,hbl⟩,by omega,fm_ ⟨rfl,rfl,(by rw [hs];rfl),rfl,rfl,rfl,rfl,rfl,rfl,rfl,rfl,bB (bF (by omega) (by omega)),trivial⟩ [] (by rw [hs];simp) (NY _ _ _ _ _ _ _) (Pq _ _ _ _ _)⟩
     ·have hj2:j=o0.length:=by omega
      subst hj2
      repeat' (first
       | refine st_nil ?_
       | (refine aM rfl rfl rfl rfl ?_ ?_; · (repeat' (first|exact trivial|rfl|exact ap_ rfl|omega|exact aF (by intro _;rfl) _|(intro e he;simp at he;subst he;rfl)|apply And.intro)))
       | (refine aN rfl rfl rfl rfl ?_ ?_; · (repeat' (first|exact trivial|rfl|exact ap_ rfl|omega|exact aF (by intro _;rfl) _|(intro e he;simp at he;subst he;rfl)|apply And.intro)))
       | (refine sS_ rfl rfl rfl ?_ ?_; · (repeat' (first|exact trivial|rfl|exact ap_ rfl|omega|exact aF (by intro _;rfl) _|(intro e he;simp at he;subst he;rfl)|apply And.intro)))
       | (refine aO rfl rfl rfl rfl ?_ ?_; · (repeat' (first|exact trivial|rfl|exact ap_ rfl|omega|exact aF (by intro _;rfl) _|(intro e he;simp at he;subst he;rfl)|apply And.intro)))
       | refine aH rfl rfl rfl ?_
       | refine sk0_ rfl rfl ?_
       | (refine eP [2] rfl rfl rfl rfl hrun rfl (rfP rfl (dE ⟨(by show 0<1;omega),trivial,trivial⟩)) rfl (jP rfl) ?_)
       | (refine aV rfl (fun hb=>?_) (fun hb=>?_)<;>(first|exact (fx_ hb).elim|rw [hb]))
       | refine aw_seq ?_
       | refine aw_region aj _ rfl ?_
       | refine aw_drawn2 tabS_ok _ rfl mixed (by decide +kernel) ?_
       | (refine aG rfl (fun hb=>?_) (fun hb=>?_)<;>(try exact (fx_ hb).elim))
       | refine aw_block ?_
       | refine aw_exit ?_
       | refine aw_ret ?_
       | refine aw_skip ?_
       | refine Bf ?_
       | refine Be ?_)
      have hd2:=hfin fun k hk=>by rw [aqN (by omega)] at hk;cases hk
      rw [<- hd2] at hnx
      have hpl2:(prK a b (i+1)).length=pr.length+ss.length:=by rw [hnx,ap8,hdl]
      exact ⟨i+1,by omega,by omega,fm_ ⟨rfl,rfl,(by rw [hpl2];rfl),rfl,rfl,bB (bF (by omega) (by omega)),trivial⟩ [_] (by rw [hpl2,hnx];rfl) (H_ a b _ _ _ 0) (Hu _ _ _ _)⟩
   ·have hi2:i=a.length:=by omega
    subst hi2
    unfold OT
    refine nZ 2 8 (cs:=(prK a b a.length).map m_) rfl (aef _) rfl (by simp) ?_
    repeat' (first
     | refine st_nil ?_
     | (refine aM rfl rfl rfl rfl ?_ ?_; · (repeat' (first|exact trivial|rfl|exact ap_ rfl|omega|exact aF (by intro _;rfl) _|(intro e he;simp at he;subst he;rfl)|apply And.intro)))
     | (refine aN rfl rfl rfl rfl ?_ ?_; · (repeat' (first|exact trivial|rfl|exact ap_ rfl|omega|exact aF (by intro _;rfl) _|(intro e he;simp at he;subst he;rfl)|apply And.intro)))
     | (refine sS_ rfl rfl rfl ?_ ?_; · (repeat' (first|exact trivial|rfl|exact ap_ rfl|omega|exact aF (by intro _;rfl) _|(intro e he;simp at he;subst he;rfl)|apply And.intro)))
     | (refine aO rfl rfl rfl rfl ?_ ?_; · (repeat' (first|exact trivial|rfl|exact ap_ rfl|omega|exact aF (by intro _;rfl) _|(intro e he;simp at he;subst he;rfl)|apply And.intro)))
     | refine aH rfl rfl rfl ?_
     | refine sk0_ rfl rfl ?_
     | (refine aV rfl (fun hb=>?_) (fun hb=>?_)<;>(first|exact (fx_ hb).elim|rw [hb]))
     | refine aw_seq ?_
     | refine aw_region aj _ rfl ?_
     | refine aw_drawn2 tabS_ok _ rfl mixed (by decide +kernel) ?_
     | (refine aG rfl (fun hb=>?_) (fun hb=>?_)<;>(try exact (fx_ hb).elim))
     | refine aw_block ?_
     | refine aw_exit ?_
     | refine aw_ret ?_
     | refine aw_skip ?_)
    have hz:prK a b a.length=fG (fun x y:aC=>nQ x.valid y.valid) b a 0:=by unfold prK;rw [List.take_length]
    rw [hz]
    refine ⟨.inr rfl,?_⟩
    first|exact ⟨trivial,rfl⟩|exact ⟨⟨trivial,trivial⟩,rfl⟩|(refine ⟨?_,rfl⟩;repeat' (first|exact trivial|rfl|apply And.intro))
set_option maxHeartbeats 8000000
def LQ (rec:Ex->List Val->Option Val) (a_e:Ex) (a_row:(List Val)):Option (Int):=(rec a_e a_row).bind fun r_1=>(oO r_1).bind fun r_2=>some r_2
theorem aaV {rec:Ex->List Val->Option Val}  (hrec : ∀ {x:Ex} {y:List Val} {r:Val}, rec x y=some r->Pure Tryz.prog 74 [.agg (tE x), .one (.lst (y.map cV))] (.val (.agg (cV r)))) {a_e:Ex} {a_row:(List Val)} {r:Int} (H:LQ rec a_e a_row=some r):Pure Tryz.prog 90 [.agg (tE a_e), .one (.lst (a_row.map cV))] (.val (.one (.int .i64 r))):=by
 unfold LQ at H
 rw [aL a_e]
 refine po_ Tryz.func90 Tryz.ntmps90 ?_
 obtain ⟨r_1,c1,H⟩:=bd_ H
 replace c1:=hrec c1
 try simp only [aqb,ap',aqd,ap5,aL] at c1
 obtain ⟨r_2,c2,H⟩:=bd_ H
 replace c2:=sJ c2
 cases H
 exact aK
def wY (c_15:(List Val)):(Int)->Option (Step (Int) (Val)):=fun s=>match s with
 | v_30=>bif (decide (v_30<((c_15.length:Nat):Int))) then (aT c_15 v_30).bind fun x_32=>bif (decide (x_32.kind≠(0:Int))) then some (.ret x_32) else
 some (.next (IntKind.i64.wrap (v_30+(1:Int)))) else
 some (.exit v_30)
def q9:Sum (Int) (Val)->Option ((Val))
 | .inl v_30=>(pI ).bind fun r_34=>some r_34
 | .inr q=>some q
def wS (a_e:Ex) (a_row:(List Val)) (rec:Ex->List Val->Option Val):((List Val) × Int)->Option (Step ((List Val) × Int) (Val)):=fun s=>match s with
 | (c_15,v_16)=>bif (decide (v_16<((a_e.args.length:Nat):Int))) then (aT a_e.args v_16).bind fun x_18=>(rec x_18 a_row).bind fun r_19=>bif (decide (0<=v_16)) then (bif (decide (v_16<((a_e.args.length:Nat):Int))) then (bif (decide ((0+v_16.toNat)<c_15.length)) then (some (.next ((c_15.set (0+v_16.toNat) r_19),(IntKind.i64.wrap (v_16+(1:Int)))))) else none) else none) else none else
 some (.exit (c_15,v_16))
def bS (a_e:Ex):Sum ((List Val) × Int) (Val)->Option ((Val))
 | .inl (c_15,v_16)=>bif (decide (c_15.length=a_e.args.length)) then (bif (decide (a_e.op=(4:Int))) then (rE a_e.op c_15).bind fun r_21=>some r_21 else
 bif (decide (a_e.op=(5:Int))) then (rE a_e.op c_15).bind fun r_23=>some r_23 else
 bif (decide (a_e.op=(6:Int))) then (rE a_e.op c_15).bind fun r_25=>some r_25 else
 bif (decide (a_e.op=(21:Int))) then (aT c_15 (0:Int)).bind fun x_27=>(Ba (decide (x_27.kind=(0:Int)))).bind fun r_28=>some r_28 else
 bif (decide (a_e.op=(23:Int))) then (az (wY c_15) fuel (0:Int)).bind (q9) else
 bif (decide (a_e.op=(24:Int))) then (Br a_e.int c_15).bind fun r_36=>some r_36 else
 bif (decide (a_e.op=(19:Int))) then (AA a_e.op c_15).bind fun r_38=>some r_38 else
 bif (decide (a_e.op=(20:Int))) then (AA a_e.op c_15).bind fun r_40=>some r_40 else
 bif (decide (a_e.op=(13:Int))) then (qb a_e.op c_15).bind fun r_42=>some r_42 else
 bif (decide (a_e.op=(14:Int))) then (qb a_e.op c_15).bind fun r_44=>some r_44 else
 bif (decide (a_e.op=(15:Int))) then (qb a_e.op c_15).bind fun r_46=>some r_46 else
 bif (decide (a_e.op=(16:Int))) then (qb a_e.op c_15).bind fun r_48=>some r_48 else
 bif (decide (a_e.op=(17:Int))) then (qb a_e.op c_15).bind fun r_50=>some r_50 else
 bif (decide (a_e.op=(18:Int))) then (qb a_e.op c_15).bind fun r_52=>some r_52 else
 (aT c_15 (0:Int)).bind fun x_53=>(aT c_15 (1:Int)).bind fun x_54=>(pE a_e.op x_53 x_54).bind fun r_55=>(Hg r_55).bind fun r_56=>some r_56) else none
 | .inr q=>some q
def Iu (rec:Ex->List Val->Option Val) (a_e:Ex) (a_row:(List Val)):Option (Val):=(uU a_e).bind fun r_1=>bif (!r_1) then (pI ).bind fun r_3=>some r_3 else
 bif (decide (a_e.op=(1:Int))) then some a_e.v else
 bif (decide (a_e.op=(2:Int))) then (Ho a_row a_e.int).bind fun r_6=>some r_6 else
 bif (decide (a_e.op=(22:Int))) then (aT a_e.args (0:Int)).bind fun x_8=>(LQ rec x_8 a_row).bind fun r_9=>bif (decide (r_9=(2:Int))) then (aT a_e.args (1:Int)).bind fun x_11=>(rec x_11 a_row).bind fun r_12=>some r_12 else
 (aT a_e.args (2:Int)).bind fun x_13=>(rec x_13 a_row).bind fun r_14=>some r_14 else
 bif (decide (0<=((a_e.args.length:Nat):Int))) then (bif (decide ((32:Int)*((a_e.args.length:Nat):Int)<=281474976710656)) then (bif (decide (((a_e.args.length:Nat):Int)<=9223372036854775807)) then ((az (wS a_e a_row rec) fuel ((List.replicate a_e.args.length ((⟨(0:Int),(0:Int),ByteArray.empty⟩:Val))),(0:Int))).bind (bS a_e)) else none) else none) else none
theorem kz {p q:Prop} (k:q) (h:Bx q->p:=by
 intro hq
 repeat' (first|refine dS rfl rfl rfl rfl rfl (CS tab_ok (k:=3) (by_:=32) rfl rfl rfl (by decide) rfl rfl rfl rfl rfl (by decide) (by omega) (by omega) (by omega)) ?_|refine Mf (enc:=cV) rfl rfl rfl rfl rfl (by omega) rfl (fun _=>rfl) rfl ?_|refine gs_ ?_|fail)
 exact hq.out):p:=h ⟨k⟩
theorem dL {p:Prop} (h:p:=by
 repeat' (first|refine dS rfl rfl rfl rfl rfl (CS tab_ok (k:=3) (by_:=32) rfl rfl rfl (by decide) rfl rfl rfl rfl rfl (by decide) (by omega) (by omega) (by omega)) ?_|refine Mf (enc:=cV) rfl rfl rfl rfl rfl (by omega) rfl (fun _=>rfl) rfl ?_|refine gs_ ?_|fail)
 refine bL (bR rfl ?_ ?_)
 ·repeat' (first|exact trivial|rfl|exact ap_ rfl|omega|apply And.intro)
 ·first|rfl|(simp only [aqb,ap',aqd,ap5]<;>rfl)):p:=h
theorem aeW {rec:Ex->List Val->Option Val}  (hrec : ∀ {x:Ex} {y:List Val} {r:Val}, rec x y=some r->Pure Tryz.prog 74 [.agg (tE x), .one (.lst (y.map cV))] (.val (.agg (cV r)))) {a_e:Ex} {a_row:(List Val)} {r:Val} (H:Iu rec a_e a_row=some r):Pure Tryz.prog 74 [.agg (tE a_e), .one (.lst (a_row.map cV))] (.val (.agg (cV r))):=by
 unfold Iu at H
 rw [aL a_e]
 refine po_ Tryz.func74 Tryz.ntmps74 ?_
 obtain ⟨r_1,c1,H⟩:=bd_ H
 replace c1:=O9 c1
 try simp only [aqb,ap',aqd,ap5,aL] at c1
 rcases af H with ⟨q_2,H⟩|⟨q_2,H⟩
 ·obtain ⟨r_3,c2,H⟩:=bd_ H
  replace c2:=gX c2
  cases H
  exact dL
 rcases af H with ⟨q_4,H⟩|⟨q_4,H⟩
 ·cases H
  exact dL
 refine kz ?_
 rcases af H with ⟨q_5,H⟩|⟨q_5,H⟩
 ·obtain ⟨r_6,c3,H⟩:=bd_ H
  replace c3:=Zu c3
  cases H
  exact dL
 rcases af H with ⟨q_7,H⟩|⟨q_7,H⟩
 ·obtain ⟨x_8,i4z,i4,i4x,H⟩:=bn (f:=tE) H
  simp only [aqb,ap',aqd,ap5,aL] at i4x
  obtain ⟨r_9,c5,H⟩:=bd_ H
  replace c5:=aaV hrec c5
  try simp only [aqb,ap',aqd,ap5,aL] at c5
  rcases af H with ⟨q_10,H⟩|⟨q_10,H⟩
  ·obtain ⟨x_11,i6z,i6,i6x,H⟩:=bn (f:=tE) H
   simp only [aqb,ap',aqd,ap5,aL] at i6x
   obtain ⟨r_12,c7,H⟩:=bd_ H
   replace c7:=hrec c7
   try simp only [aqb,ap',aqd,ap5,aL] at c7
   cases H
   exact dL
  obtain ⟨x_13,i8z,i8,i8x,H⟩:=bn (f:=tE) H
  simp only [aqb,ap',aqd,ap5,aL] at i8x
  obtain ⟨r_14,c9,H⟩:=bd_ H
  replace c9:=hrec c9
  try simp only [aqb,ap',aqd,ap5,aL] at c9
  cases H
  exact dL
 obtain ⟨g10,H⟩:=aS H
 obtain ⟨g11,H⟩:=aS H
 obtain ⟨g12,H⟩:=aS H
 refine kz ?_
 refine alM_ (fun s:(List Val) × Int=>match s with|(c_15,v_16)=>[(1, .one (.c (.lst (a_row.map cV)))),(2, .one (.ptr 0 0)),(4, .one (.ptr 1 0)),(5, .one (.sl 2 (33+65536) 0 a_e.args.length)),(52, .one (.c (.lst (a_e.args.map tE)))),(53, .one (.c (.int .i64 ((a_e.args.length:Nat):Int)))),(54, .one (.c (.int .i64 v_16)))]) (fun s=>match s with|(c_15,v_16)=>[.box [.c (.int .i64 a_e.op), .c (.int .i64 a_e.int), .c (.int .i64 a_e.v.kind), .c (.int .i64 a_e.v.int), .c (.str a_e.v.text), .c (.str a_e.nm), .c (.lst (a_e.args.map tE))], .box [.c (.int .i64 (0:Int)), .c (.int .i64 (0:Int)), .c (.str ByteArray.empty)], .row (33+65536) ((c_15.map cV).map (List.map SV.c)) 3]) H (fun _=>aqj _)
  (fm_ bY [] (by simp only [List.map_replicate]<;>rfl) bA ⟨lL (by rfl),lL (by rfl),oC _ _ _ _ _,trivial⟩) ?_
 rintro ⟨c_15,v_16⟩ st1 hb1 hk1
 unfold wS at hb1
 dsimp only at hb1 ⊢
 rcases af hb1 with ⟨q_17,hb1⟩|⟨q_17,hb1⟩
 ·obtain ⟨x_18,i13z,i13,i13x,hb1⟩:=bn (f:=tE) hb1
  simp only [aqb,ap',aqd,ap5,aL] at i13x
  obtain ⟨r_19,c14,hb1⟩:=bd_ hb1
  replace c14:=hrec c14
  try simp only [aqb,ap',aqd,ap5,aL] at c14
  obtain ⟨g15,hb1⟩:=aS hb1
  obtain ⟨g16,hb1⟩:=aS hb1
  obtain ⟨g17,hb1⟩:=aS hb1
  cases hb1
  refine kz ?_
  exact ⟨_,rfl,fm_ bY [_] rfl bA ⟨lL (by rfl),lL (by rfl),oC _ _ _ _ _,trivial⟩⟩
 cases hb1
 have hx1:bS a_e (.inl (c_15,v_16))=some _:=hk1
 unfold bS at hx1
 dsimp only at hx1
 obtain ⟨g18,hx1⟩:=aS hx1
 have z19:((c_15.map cV).drop 0).take a_e.args.length=c_15.map cV:=by rw [List.drop_zero,aqE];rw [aqa];omega
 refine yL 2 (cs:=c_15.map cV) rfl (nA _) ?_
 simp only [ap',aqd,thA,thS,and_self,if_true,eq_self,List.set,z19]
 refine kz ?_
 rcases af hx1 with ⟨q_20,hx1⟩|⟨q_20,hx1⟩
 ·obtain ⟨r_21,c20,hx1⟩:=bd_ hx1
  replace c20:=JE c20
  cases hx1
  exact dL
 rcases af hx1 with ⟨q_22,hx1⟩|⟨q_22,hx1⟩
 ·obtain ⟨r_23,c21,hx1⟩:=bd_ hx1
  replace c21:=JE c21
  cases hx1
  exact dL
 rcases af hx1 with ⟨q_24,hx1⟩|⟨q_24,hx1⟩
 ·obtain ⟨r_25,c22,hx1⟩:=bd_ hx1
  replace c22:=JE c22
  cases hx1
  exact dL
 refine kz ?_
 rcases af hx1 with ⟨q_26,hx1⟩|⟨q_26,hx1⟩
 ·obtain ⟨x_27,i23z,i23,i23x,hx1⟩:=bn (f:=cV) hx1
  obtain ⟨r_28,c24,hx1⟩:=bd_ hx1
  replace c24:=xy c24
  cases hx1
  exact dL
 rcases af hx1 with ⟨q_29,hx1⟩|⟨q_29,hx1⟩
 ·refine kz ?_
  refine alM_ (fun s:Int=>match s with|v_30=>[(4, .one (.ptr 1 0)),(86, .one (.c (.lst (c_15.map cV)))),(87, .one (.c (.int .i64 ((c_15.length:Nat):Int)))),(88, .one (.c (.int .i64 v_30)))]) (fun s=>match s with|v_30=>[.box [.c (.int .i64 a_e.op), .c (.int .i64 a_e.int), .c (.int .i64 a_e.v.kind), .c (.int .i64 a_e.v.int), .c (.str a_e.v.text), .c (.str a_e.nm), .c (.lst (a_e.args.map tE))], .box [.c (.int .i64 (0:Int)), .c (.int .i64 (0:Int)), .c (.str ByteArray.empty)], .dead]) hx1 (fun _=>aqj _)
   (fm_ bY [] rfl bA cz) ?_
  rintro v_30 st2 hb2 hk2
  unfold wY at hb2
  dsimp only at hb2 ⊢
  rcases af hb2 with ⟨q_31,hb2⟩|⟨q_31,hb2⟩
  ·obtain ⟨x_32,i25z,i25,i25x,hb2⟩:=bn (f:=cV) hb2
   refine kz ?_
   rcases af hb2 with ⟨q_33,hb2⟩|⟨q_33,hb2⟩
   ·cases hb2
    have hx2:q9 (.inr x_32)=some _:=hk2
    unfold q9 at hx2
    dsimp only at hx2
    cases hx2
    exact dL
   cases hb2
   refine kz ?_
   exact ⟨_,rfl,fm_ bY [_] rfl bA cz⟩
  cases hb2
  have hx2:q9 (.inl v_30)=some _:=hk2
  unfold q9 at hx2
  dsimp only at hx2
  obtain ⟨r_34,c26,hx2⟩:=bd_ hx2
  replace c26:=gX c26
  cases hx2
  exact dL
 rcases af hx1 with ⟨q_35,hx1⟩|⟨q_35,hx1⟩
 ·obtain ⟨r_36,c27,hx1⟩:=bd_ hx1
  replace c27:=WS c27
  cases hx1
  exact dL
 refine kz ?_
 rcases af hx1 with ⟨q_37,hx1⟩|⟨q_37,hx1⟩
 ·obtain ⟨r_38,c28,hx1⟩:=bd_ hx1
  replace c28:=SH c28
  cases hx1
  exact dL
 rcases af hx1 with ⟨q_39,hx1⟩|⟨q_39,hx1⟩
 ·obtain ⟨r_40,c29,hx1⟩:=bd_ hx1
  replace c29:=SH c29
  cases hx1
  exact dL
 rcases af hx1 with ⟨q_41,hx1⟩|⟨q_41,hx1⟩
 ·obtain ⟨r_42,c30,hx1⟩:=bd_ hx1
  replace c30:=rq c30
  cases hx1
  exact dL
 refine kz ?_
 rcases af hx1 with ⟨q_43,hx1⟩|⟨q_43,hx1⟩
 ·obtain ⟨r_44,c31,hx1⟩:=bd_ hx1
  replace c31:=rq c31
  cases hx1
  exact dL
 rcases af hx1 with ⟨q_45,hx1⟩|⟨q_45,hx1⟩
 ·obtain ⟨r_46,c32,hx1⟩:=bd_ hx1
  replace c32:=rq c32
  cases hx1
  exact dL
 rcases af hx1 with ⟨q_47,hx1⟩|⟨q_47,hx1⟩
 ·obtain ⟨r_48,c33,hx1⟩:=bd_ hx1
  replace c33:=rq c33
  cases hx1
  exact dL
 refine kz ?_
 rcases af hx1 with ⟨q_49,hx1⟩|⟨q_49,hx1⟩
 ·obtain ⟨r_50,c34,hx1⟩:=bd_ hx1
  replace c34:=rq c34
  cases hx1
  exact dL
 rcases af hx1 with ⟨q_51,hx1⟩|⟨q_51,hx1⟩
 ·obtain ⟨r_52,c35,hx1⟩:=bd_ hx1
  replace c35:=rq c35
  cases hx1
  exact dL
 obtain ⟨x_53,i36z,i36,i36x,hx1⟩:=bn (f:=cV) hx1
 obtain ⟨x_54,i37z,i37,i37x,hx1⟩:=bn (f:=cV) hx1
 obtain ⟨r_55,c38,hx1⟩:=bd_ hx1
 replace c38:=NC c38
 obtain ⟨r_56,c39,hx1⟩:=bd_ hx1
 replace c39:=FN c39
 cases hx1
 exact dL
def BO:Nat->Ex->List Val->Option Val
 | 0,_,_=>none
 | n+1,e,r=>Iu (BO n) e r
theorem Pk : ∀ (n:Nat) {x:Ex} {y:List Val} {r:Val}, BO n x y=some r->Pure Tryz.prog 74 [.agg (tE x), .one (.lst (y.map cV))] (.val (.agg (cV r)))
 | 0,_,_,_,h=>nomatch h
 | n+1,_,_,_,h=>aeW (Pk n) h
set_option maxHeartbeats 8000000
def CQ (a_l:(List Int)):(Int × Int)->Option (Step (Int × Int) (Int × Bool)):=fun s=>match s with
 | (kind_1,v_2)=>bif (decide (v_2<((a_l.length:Nat):Int))) then (aT a_l v_2).bind fun x_4=>bif (decide (x_4=(0:Int))) then some (.next (kind_1,(IntKind.i64.wrap (v_2+(1:Int))))) else
 bif (decide (kind_1≠(0:Int))) then bif (decide (kind_1≠x_4)) then some (.ret ((0:Int),false)) else
 some (.next (x_4,(IntKind.i64.wrap (v_2+(1:Int))))) else
 some (.next (x_4,(IntKind.i64.wrap (v_2+(1:Int))))) else
 some (.exit (kind_1,v_2))
def xO:Sum (Int × Int) (Int × Bool)->Option ((Int × Bool))
 | .inl (kind_1,v_2)=>some (kind_1,true)
 | .inr q=>some q
def nK (a_l:(List Int)):Option (Int × Bool):=(az (CQ a_l) fuel ((0:Int),(0:Int))).bind (xO)
def XB (l:List Int):Bool := !l.isEmpty&&decide (l.length<=100000)
def zR (l:List Int) (k:Int):Option Bool:=bif XB l then (nK (l++[k])).bind fun r=>some (bif r.2 then decide (r.1=k) else false) else none
def gRsP (a_e:Ex) (a_l:(List Int)):Option (Int × Bool):=bif (decide (a_e.op=(1:Int))) then some (a_e.v.kind,true) else
 bif (decide (a_e.op=(4:Int))) then (zR a_l (3:Int)).bind fun r_3=>some ((3:Int),r_3) else
 bif (decide (a_e.op=(5:Int))) then (zR a_l (3:Int)).bind fun r_5=>some ((3:Int),r_5) else
 bif (decide (a_e.op=(6:Int))) then (zR a_l (3:Int)).bind fun r_7=>some ((3:Int),r_7) else
 bif (decide (a_e.op=(7:Int))) then (nK a_l).bind fun r_9=>some ((3:Int),r_9.2) else
 bif (decide (a_e.op=(8:Int))) then (nK a_l).bind fun r_11=>some ((3:Int),r_11.2) else
 bif (decide (a_e.op=(9:Int))) then (nK a_l).bind fun r_13=>some ((3:Int),r_13.2) else
 bif (decide (a_e.op=(10:Int))) then (nK a_l).bind fun r_15=>some ((3:Int),r_15.2) else
 bif (decide (a_e.op=(11:Int))) then (nK a_l).bind fun r_17=>some ((3:Int),r_17.2) else
 bif (decide (a_e.op=(12:Int))) then (nK a_l).bind fun r_19=>some ((3:Int),r_19.2) else
 bif (decide (a_e.op=(19:Int))) then (zR a_l (2:Int)).bind fun r_21=>some ((2:Int),r_21) else
 bif (decide (a_e.op=(20:Int))) then (zR a_l (2:Int)).bind fun r_23=>some ((1:Int),r_23) else
 bif (decide (a_e.op=(21:Int))) then some ((3:Int),true) else
 bif (decide (a_e.op=(22:Int))) then (l6 a_l (1:Int) ((a_l.length:Nat):Int)).bind fun s_26=>(nK s_26).bind fun r_27=>bif r_27.2 then (l6 a_l (0:Int) (1:Int)).bind fun s_29=>(zR s_29 (3:Int)).bind fun r_30=>some (r_27.1,r_30) else
 some (r_27.1,false) else
 bif (decide (a_e.op=(23:Int))) then (nK a_l).bind fun r_32=>some (r_32.1,r_32.2) else
 bif (decide (a_e.op=(24:Int))) then (zR a_l (1:Int)).bind fun r_34=>some ((3:Int),r_34) else
 (zR a_l (1:Int)).bind fun r_35=>some ((1:Int),r_35)
def iW (a_e:Ex) (a_most:Int) (rec:Ex->Int->Option Int):(Int × Int)->Option (Step (Int × Int) (Int)):=fun s=>match s with
 | (n_2,v_3)=>bif (decide (v_3<((a_e.args.length:Nat):Int))) then (aT a_e.args v_3).bind fun x_5=>(rec x_5 (IntKind.i64.wrap (a_most-(1:Int)))).bind fun r_6=>some (.next ((PW n_2 (IntKind.i64.wrap ((1:Int)+r_6))),(IntKind.i64.wrap (v_3+(1:Int))))) else
 some (.exit (n_2,v_3))
def BN:Sum (Int × Int) (Int)->Option ((Int))
 | .inl (n_2,v_3)=>some n_2
 | .inr q=>some q
def Al (rec:Ex->Int->Option Int) (a_e:Ex) (a_most:Int):Option (Int):=bif (decide (a_most<=(1:Int))) then some (1:Int) else
 (az (iW a_e a_most rec) fuel ((1:Int),(0:Int))).bind (BN)
def xS:Nat->Ex->Int->Option Int
 | 0,_,_=>none
 | n+1,x,y=>Al (xS n) x y
def adc (a_e:Ex):Option (Int):=(xS fuel a_e (25:Int)).bind fun r_1=>some r_1
def uL (a_e:Ex) (a_kinds:(List Int)) (rec:Ex->List Int->Option (Int × Int)):((List Int) × Int)->Option (Step ((List Int) × Int) (Int × Int)):=fun s=>match s with
 | (l_9,v_10)=>bif (decide (v_10<((a_e.args.length:Nat):Int))) then (aT a_e.args v_10).bind fun x_12=>(rec x_12 a_kinds).bind fun r_13=>bif (decide (r_13.2≠(0:Int))) then some (.ret ((0:Int),r_13.2)) else
 bif (decide (l_9.length+1<=17592186044416)) then (some (.next ((l_9++[r_13.1]),(IntKind.i64.wrap (v_10+(1:Int)))))) else none else
 some (.exit (l_9,v_10))
def mO (a_e:Ex):Sum ((List Int) × Int) (Int × Int)->Option ((Int × Int))
 | .inl (l_9,v_10)=>(gRsP a_e l_9).bind fun r_15=>bif (!r_15.2) then some ((0:Int),(7:Int)) else
 some (r_15.1,(0:Int))
 | .inr q=>some q
def Bt (rec:Ex->List Int->Option (Int × Int)) (a_e:Ex) (a_kinds:(List Int)):Option (Int × Int):=(yb a_e.op ((a_e.args.length:Nat):Int)).bind fun r_1=>bif (!r_1.2) then some ((0:Int),(7:Int)) else
 (uU a_e).bind fun r_3=>bif (!r_3) then some ((0:Int),(8:Int)) else
 bif (decide (a_e.op=(2:Int))) then bif (decide (a_e.int<(0:Int))) then some ((0:Int),(13:Int)) else
 bif (decide (((a_kinds.length:Nat):Int)<=a_e.int)) then some ((0:Int),(13:Int)) else
 (aT a_kinds a_e.int).bind fun x_8=>some (x_8,(0:Int)) else
 (az (uL a_e a_kinds rec) fuel ([],(0:Int))).bind (mO a_e)
def yH:Nat->Ex->List Int->Option (Int × Int)
 | 0,_,_=>none
 | n+1,x,y=>Bt (yH n) x y
def SS (a_e:Ex) (a_kinds:(List Int)):Option (Int × Int):=(adc a_e).bind fun r_1=>bif (decide ((24:Int)<r_1)) then some ((0:Int),(26:Int)) else
 (yH fuel a_e a_kinds).bind fun r_3=>some (r_3.1,r_3.2)
set_option maxHeartbeats 8000000
def Ve (a_p:aP) (a_q:aP):Option (Bool):=(YJ a_p).bind fun r_1=>bif r_1 then (YJ a_q).bind fun r_3=>bif r_3 then bif (decide (a_p.lo<a_q.hi)) then some (decide (a_q.lo<a_p.hi)) else
 some false else
 some false else
 some false
theorem afz {a_p:aP} {a_q:aP} {r:Bool} (H:Ve a_p a_q=some r):Pure Tryz.prog 144 [.agg (bv a_p), .agg (bv a_q)] (.val (.one (.bool r))):=by
 unfold Ve at H
 refine po_ Tryz.func144 Tryz.ntmps144 ?_
 obtain ⟨r_1,c1,H⟩:=bd_ H
 replace c1:=yQ c1
 rcases af H with ⟨q_2,H⟩|⟨q_2,H⟩
 ·obtain ⟨r_3,c2,H⟩:=bd_ H
  replace c2:=yQ c2
  rcases af H with ⟨q_4,H⟩|⟨q_4,H⟩
  ·rcases af H with ⟨q_5,H⟩|⟨q_5,H⟩
   ·cases H
    exact aK
   cases H
   exact aK
  cases H
  exact aK
 cases H
 exact aK
def LJ (a_p:aP) (a_q:aP):Option (aP × Bool):=(Ve a_p a_q).bind fun r_1=>bif (!r_1) then some ((⟨(0:Int),(0:Int)⟩:aP),false) else
 some ((⟨(PW a_p.lo a_q.lo),(mnI a_p.hi a_q.hi)⟩:aP),true)
theorem aal {a_p:aP} {a_q:aP} {r:aP × Bool} (H:LJ a_p a_q=some r):Pure Tryz.prog 91 [.agg (bv a_p), .agg (bv a_q)] (.tup [.agg (bv r.1), .one (.bool r.2)]):=by
 unfold LJ at H
 refine po_ Tryz.func91 Tryz.ntmps91 ?_
 obtain ⟨r_1,c1,H⟩:=bd_ H
 replace c1:=afz c1
 rcases af H with ⟨q_2,H⟩|⟨q_2,H⟩
 ·cases H
  exact aK
 cases H
 exact aK
end Go.Proofs.YtlcceppoloaecaaGreatDoor
namespace Go.Proofs
open Go.Shelf
def Tryz.growV_ren:Go.Shelf.Ren:=⟨fun|4=>155|n=>n,fun|22=>50|25=>33|3=>3|4=>4|9=>9|20=>20|0=>0|n=>n,fun|n=>n⟩
theorem Tryz.growV:Go.Proofs.Lays8.n4 Tryz.prog Tryz.growV_ren := {
 mixed:=by kernel_rfl
 f4:=⟨Tryz.f155.name,by decide,Tryz.func155.trans (congrArg some (by kernel_rfl))⟩
 t0:=Tryz.underlying0
 a0:=Tryz.isAgg0
 z0:=Tryz.sizeOf0
 v0:=Tryz.zeroValue0
 t3:=Tryz.underlying3
 a3:=Tryz.isAgg3
 z3:=Tryz.sizeOf3
 v3:=Tryz.zeroValue3
 t4:=Tryz.underlying4
 a4:=Tryz.isAgg4
 z4:=Tryz.sizeOf4
 v4:=Tryz.zeroValue4
 t9:=Tryz.underlying9
 a9:=Tryz.isAgg9
 z9:=Tryz.sizeOf9
 v9:=Tryz.zeroValue9
 t20:=Tryz.underlying20
 a20:=Tryz.isAgg20
 z20:=Tryz.sizeOf20
 v20:=Tryz.zeroValue20
 t22:=Tryz.underlying50
 a22:=Tryz.isAgg50
 z22:=Tryz.sizeOf50
 v22:=Tryz.zeroValue50 }
end Go.Proofs
namespace Go.Proofs.YtlcceppoloaecaaGreatDoor
open Go.RowKit Go.MapKept
set_option maxRecDepth 100000
theorem agV (n:Nat) (h0:0<n) (hn:n<=1000000000):Run Tryz.prog 155 [] [.one .emp, .one (.c (.int .i64 n))] [.row (33+65536) [] 3] (.one (.sl 0 (33+65536) 0 0)):=by
 refine ⟨⟨_,Tryz.func155,by kernel_rfl,by kernel_rfl⟩,fun B R γ w vs hi hs hv=>?_⟩
 obtain ⟨v1,v2,rfl⟩ : ∃ a b,vs = #[a,b]:=by
  match vs,hs with
  | ⟨[a,b]⟩,_=>exact ⟨a,b,rfl⟩
 obtain ⟨a,rfl⟩:=hv 0 v1 _ rfl rfl
 have h2:bX R v2 (.int .i64 n):=hv 1 v2 _ rfl rfl
 cases h2
 obtain ⟨inf,z,hinf,hzz,hisz,hzc⟩:=aj.zok 33 rfl 3 (aj.size _ _ rfl)
 have hbytes:inf.bytes=32:=by have hby:=aj.bytes 33 32 rfl;unfold qg at hby;rw [hinf] at hby;simpa using hby
 have hgr:=Any8.slices_Grow_grow Tryz.growV inf z hinf hzz (by rw [hisz];decide) a 0 0 n [] w (aqe _) (by omega) (by rw [hbytes];omega) (by omega) (by simp) (fun _=>rfl) (fun _ _ j v h=>by simp at h)
 refine (show Calls Tryz.prog 155 #[.slice a 0 0, .int .i64 n] w _ from hgr).mono ?_
 rintro e w' ⟨rfl,rfl⟩
 have hcap:=grownCap_ge w (0+n) 0 33
 have hE:(Tryz.growV_ren.t 25)=33:=rfl
 rw [hE]
 generalize grownCap w (0+n) 0 33=cap at hcap
 have hγ:γ=[]:=aqo (by rw [hi.len];rfl)
 subst hγ
 have hm:Mv R R ([]:List Gh) ([]++[.arr w.heap.size cap]) [] ([]++[.row (33+65536) [] 3]):=Mv.push _ _ hi.len
 have hIp:Inv B R ([]++[.arr w.heap.size cap]) ([]++[.row (33+65536) [] 3]) (w.alloc (.cells (([]:List Value).toArray++Builtin.zeroCells z.cells (0+n-0)++Builtin.zeroCells z.cells (cap-(0+n))) 33)):=by
  refine hi.push _ _ _ rfl ⟨⟨_,33,⟨gD w _,by show (33:Nat)=(33+65536)%65536;omega,by show 65536<=(33:Nat)+65536;omega⟩,?_,fun i e j u x he hu hx=>by simp at he⟩,aqj _,by decide,(fun e he=>by cases he),fun o=>hi.none_at o⟩
  rw [Array.size_append,Array.size_append,size_zeroCells,size_zeroCells,hzc]
  simp only [List.size_toArray,aqu]
  rw [aqH, <- Nat.add_mul];congr 1;omega
 refine ⟨_,R,_,rfl,⟨hIp.len,fun b o u h=>hIp.val b o u h,fun i x g h1 h2=>(hIp.obj i x g h1 h2).mv Mv.refl (fun _ _=>rfl) (fun _ _ _ h=>h),hIp.inj,hIp.new,hIp.bsz⟩,⟨⟨rfl,rfl,rfl,by show w.heap.size<=(w.heap.push _).size;simp,fun b hb=>jm w.drew _ (hi.bsz b hb)⟩,PH.sub_refl _,fun _ _ _=>rfl⟩,hm,⟨rfl,rfl⟩,by simp,fun ver2 es2 k2 e2=>?_⟩
 simp at e2
 obtain ⟨q1,q2,q3⟩:=e2
 subst q1 q2 q3
 exact ⟨aqe _,fun _=>⟨by simp, .arr w.heap.size cap,rfl, .inl (by simp)⟩⟩
set_option maxHeartbeats 8000000
def aof:TI := { tab with owns:=fun f=>f==155||tab.owns f }
theorem lM:TIok Tryz.prog aof:=⟨tab_ok.size,tab_ok.agg,tab_ok.elem,tab_ok.field,tab_ok.zero,tab_ok.bytes,tab_ok.kind,tab_ok.struct,tab_ok.zok,tab_ok.eqs⟩
def RV (a b:List Val):Nat->Nat
 | 0=>0
 | 1=>a.length
 | _=>a.length+b.length
def aiq (a b:List Val):Nat->List Val
 | 0=>[]
 | 1=>a
 | _=>a++b
theorem YF (l:List Val) : ∀ e∈l.map cV,e.length=3:=by intro e he;obtain ⟨x,_,rfl⟩:=aqz.1 he;rfl
theorem VD {id v w n m:Nat} (h:n=m) (hv:v=w):some (AV.one (.sl id v 0 n))=some (AV.one (.sl id w 0 m)):=by subst h hv;rfl
theorem ZB {v w k:Nat} {a b:List (List SV)} (h:a=b) (hv:v=w):[Ob.row v a k]=[Ob.row w b k]:=by rw [h,hv]
theorem Kq (a b:List Val) (h0:0<a.length+b.length) (h1:a.length+b.length<=1000000):Pure Tryz.prog 97 [.one (.lst [[dM a],[dM b]])] (.val (.one (dM (a++b)))):=by
 refine pa_ lM Tryz.func97 rfl rfl Tryz.ntmps97 (by simp) ?_
 simp only [argT,PV.av,ap',aqd]
 have ha:(((a.map cV).length:Nat):Int)=a.length:=by simp
 have hb:(((b.map cV).length:Nat):Int)=b.length:=by simp
 have w1:IntKind.i64.wrap (((RV a b 0:Nat):Int)+((a.map cV).length:Nat))=((RV a b 1:Nat):Int):=by rw [ha];exact bF (by simp [RV]) (by simp only [RV];omega)
 have w2:IntKind.i64.wrap (((RV a b 1:Nat):Int)+((b.map cV).length:Nat))=((RV a b 2:Nat):Int):=by rw [hb];exact bF (by simp [RV]) (by simp only [RV];omega)
 have n1:decide (((RV a b 1:Nat):Int)<0)=false:=ap3 (by omega)
 have n2:decide (((RV a b 2:Nat):Int)<0)=false:=ap3 (by omega)
 repeat' (first
  | refine st_nil ?_
  | refine aM rfl rfl rfl rfl ph_ ?_
  | refine aN rfl rfl rfl rfl ph_ ?_
  | refine sS_ rfl rfl rfl ph_ ?_
  | refine aO rfl rfl rfl rfl ph_ ?_
  | refine aH rfl rfl rfl ?_
  | refine sk0_ rfl rfl ?_
  | (refine aV rfl (fun hb=>?_) (fun hb=>?_)<;>(first|exact (fx_ hb).elim|rw [hb]))
  | refine aw_seq ?_
  | refine aw_region lM _ rfl ?_
  | refine aw_drawn2 tabS_ok _ rfl mixed (by decide +kernel) ?_
  | (refine aG rfl (fun hb=>?_) (fun hb=>?_)<;>(try exact (fx_ hb).elim))
  | refine aw_block ?_
  | refine aw_exit ?_
  | refine aw_ret ?_
  | refine aw_skip ?_)
 refine eH (fun i:Nat=>[(0, .one (.c (.lst [[dM a],[dM b]]))),(3, .one (.c (.int .i64 (RV a b i)))),(9, .one (.c (.lst [[dM a],[dM b]]))),(10, .one (.c (.int .i64 2))),(11, .one (.c (.int .i64 i)))]) (fun _=>[]) (fun i=>i<=2) (fun i=>2-i) 0 (by omega) (fun _ _=>aqj _)
  (fm_ ⟨rfl,rfl,rfl,rfl,rfl,trivial⟩ [] rfl (by repeat' (first|exact trivial|apply And.intro)) (by repeat' (first|exact trivial|apply And.intro))) ?_
 intro i hi
 match i,hi with
 | 0,_ =>
  repeat' (first
   | refine st_nil ?_
   | rw [w1]
   | rw [n1]
   | refine aM rfl rfl rfl rfl ph_ ?_
   | refine aN rfl rfl rfl rfl ph_ ?_
   | refine sS_ rfl rfl rfl ph_ ?_
   | refine aO rfl rfl rfl rfl ph_ ?_
   | refine aH rfl rfl rfl ?_
   | refine sk0_ rfl rfl ?_
   | (refine aV rfl (fun hb=>?_) (fun hb=>?_)<;>(first|exact (fx_ hb).elim|rw [hb]))
   | refine aw_seq ?_
   | refine aw_region lM _ rfl ?_
   | refine aw_drawn2 tabS_ok _ rfl mixed (by decide +kernel) ?_
   | (refine aG rfl (fun hb=>?_) (fun hb=>?_)<;>(try exact (fx_ hb).elim))
   | refine aw_block ?_
   | refine aw_exit ?_
   | refine aw_ret ?_
   | refine aw_skip ?_)
  exact ⟨1,by omega,by omega,fm_ ⟨rfl,rfl,rfl,rfl,rfl,trivial⟩ [] rfl (by repeat' (first|exact trivial|apply And.intro)) (by repeat' (first|exact trivial|apply And.intro))⟩
 | 1,_ =>
  repeat' (first
   | refine st_nil ?_
   | rw [w2]
   | rw [n2]
   | refine aM rfl rfl rfl rfl ph_ ?_
   | refine aN rfl rfl rfl rfl ph_ ?_
   | refine sS_ rfl rfl rfl ph_ ?_
   | refine aO rfl rfl rfl rfl ph_ ?_
   | refine aH rfl rfl rfl ?_
   | refine sk0_ rfl rfl ?_
   | (refine aV rfl (fun hb=>?_) (fun hb=>?_)<;>(first|exact (fx_ hb).elim|rw [hb]))
   | refine aw_seq ?_
   | refine aw_region lM _ rfl ?_
   | refine aw_drawn2 tabS_ok _ rfl mixed (by decide +kernel) ?_
   | (refine aG rfl (fun hb=>?_) (fun hb=>?_)<;>(try exact (fx_ hb).elim))
   | refine aw_block ?_
   | refine aw_exit ?_
   | refine aw_ret ?_
   | refine aw_skip ?_)
  exact ⟨2,by omega,by omega,fm_ ⟨rfl,rfl,rfl,rfl,rfl,trivial⟩ [] rfl (by repeat' (first|exact trivial|apply And.intro)) (by repeat' (first|exact trivial|apply And.intro))⟩
 | 2,_ =>
  have hg:=agV (a.length+b.length) h0 (by omega)
  repeat' (first
   | refine st_nil ?_
   | refine aM rfl rfl rfl rfl ph_ ?_
   | refine aN rfl rfl rfl rfl ph_ ?_
   | refine sS_ rfl rfl rfl ph_ ?_
   | refine aO rfl rfl rfl rfl ph_ ?_
   | refine aH rfl rfl rfl ?_
   | refine sk0_ rfl rfl ?_
   | (refine eP [] (r' := .one (.sl 0 (33+65536) 0 0)) (L':=[.row (33+65536) [] 3]) rfl rfl rfl rfl hg rfl ⟨rfl,by simp,fun i x hx=>by simp at hx,fun x hx=>by simp at hx,dE ⟨trivial,trivial,trivial⟩⟩ rfl rfl ?_)
   | (refine aV rfl (fun hb=>?_) (fun hb=>?_)<;>(first|exact (fx_ hb).elim|rw [hb]))
   | refine aw_seq ?_
   | refine aw_region lM _ rfl ?_
   | refine aw_drawn2 tabS_ok _ rfl mixed (by decide +kernel) ?_
   | (refine aG rfl (fun hb=>?_) (fun hb=>?_)<;>(try exact (fx_ hb).elim))
   | refine aw_block ?_
   | refine aw_exit ?_
   | refine aw_ret ?_
   | refine aw_skip ?_)
  refine eH (fun i:Nat=>[(6, .one (.sl 0 (33+65536+65536*i) 0 (RV a b i))),(25, .one (.c (.lst [[dM a],[dM b]]))),(26, .one (.c (.int .i64 2))),(27, .one (.c (.int .i64 i)))]) (fun i=>[.row (33+65536+65536*i) (((aiq a b i).map cV).map (List.map SV.c)) 3]) (fun i=>i<=2) (fun i=>2-i) 0 (by omega) (fun _ _=>aqj _)
   (fm_ ⟨VD rfl (by omega),rfl,rfl,rfl,trivial⟩ [] (ZB rfl (by omega)) ⟨Nat.zero_lt_one,trivial,trivial,trivial,trivial⟩ ⟨oC _ _ _ _ _,trivial⟩) ?_
  intro i hi
  match i,hi with
  | 0,_ =>
   repeat' (first
    | refine st_nil ?_
    | (refine dS rfl rfl rfl rfl rfl (iD lM (k:=3) (by_:=32) (xs:=(a.map cV).map (List.map SV.c)) rfl rfl rfl rfl ⟨rfl,_,rfl,YF _⟩ rfl (by omega) rfl rfl rfl (by decide) (by simp [aiq,RV]) (by rw [aqa,aqa];simp only [RV];omega) (by rw [aqa,aqa];simp only [RV];omega)) ?_)
    | refine aM rfl rfl rfl rfl ph_ ?_
    | refine aN rfl rfl rfl rfl ph_ ?_
    | refine sS_ rfl rfl rfl ph_ ?_
    | refine aO rfl rfl rfl rfl ph_ ?_
    | refine aH rfl rfl rfl ?_
    | refine sk0_ rfl rfl ?_
    | (refine aV rfl (fun hb=>?_) (fun hb=>?_)<;>(first|exact (fx_ hb).elim|rw [hb]))
    | refine aw_seq ?_
    | refine aw_region lM _ rfl ?_
    | refine aw_drawn2 tabS_ok _ rfl mixed (by decide +kernel) ?_
    | (refine aG rfl (fun hb=>?_) (fun hb=>?_)<;>(try exact (fx_ hb).elim))
    | refine aw_block ?_
    | refine aw_exit ?_
    | refine aw_ret ?_
    | refine aw_skip ?_)
   exact ⟨1,by omega,by omega,fm_ ⟨VD (by simp [RV]) (by omega),rfl,rfl,rfl,trivial⟩ [] (ZB (by simp [aiq]) (by omega)) ⟨Nat.zero_lt_one,trivial,trivial,trivial,trivial⟩ ⟨oC _ _ _ _ _,trivial⟩⟩
  | 1,_ =>
   repeat' (first
    | refine st_nil ?_
    | (refine dS rfl rfl rfl rfl rfl (iD lM (k:=3) (by_:=32) (xs:=(b.map cV).map (List.map SV.c)) rfl rfl rfl rfl ⟨rfl,_,rfl,YF _⟩ rfl (by omega) rfl rfl rfl (by decide) (by simp [aiq,RV]) (by rw [aqa,aqa];simp only [RV];omega) (by rw [aqa,aqa];simp only [RV];omega)) ?_)
    | refine aM rfl rfl rfl rfl ph_ ?_
    | refine aN rfl rfl rfl rfl ph_ ?_
    | refine sS_ rfl rfl rfl ph_ ?_
    | refine aO rfl rfl rfl rfl ph_ ?_
    | refine aH rfl rfl rfl ?_
    | refine sk0_ rfl rfl ?_
    | (refine aV rfl (fun hb=>?_) (fun hb=>?_)<;>(first|exact (fx_ hb).elim|rw [hb]))
    | refine aw_seq ?_
    | refine aw_region lM _ rfl ?_
    | refine aw_drawn2 tabS_ok _ rfl mixed (by decide +kernel) ?_
    | (refine aG rfl (fun hb=>?_) (fun hb=>?_)<;>(try exact (fx_ hb).elim))
    | refine aw_block ?_
    | refine aw_exit ?_
    | refine aw_ret ?_
    | refine aw_skip ?_)
   exact ⟨2,by omega,by omega,fm_ ⟨VD (by simp [RV]) (by omega),rfl,rfl,rfl,trivial⟩ [] (ZB (by simp [aiq]) (by omega)) ⟨Nat.zero_lt_one,trivial,trivial,trivial,trivial⟩ ⟨oC _ _ _ _ _,trivial⟩⟩
  | 2,_ =>
   refine nZ 0 6 (cs:=(a++b).map cV) rfl (nA _) rfl (by rw [aqa,ap8];rfl) ?_
   repeat' (first
    | refine st_nil ?_
    | refine aM rfl rfl rfl rfl ph_ ?_
    | refine aN rfl rfl rfl rfl ph_ ?_
    | refine sS_ rfl rfl rfl ph_ ?_
    | refine aO rfl rfl rfl rfl ph_ ?_
    | refine aH rfl rfl rfl ?_
    | refine sk0_ rfl rfl ?_
    | (refine aV rfl (fun hb=>?_) (fun hb=>?_)<;>(first|exact (fx_ hb).elim|rw [hb]))
    | refine aw_seq ?_
    | refine aw_region lM _ rfl ?_
    | refine aw_drawn2 tabS_ok _ rfl mixed (by decide +kernel) ?_
    | (refine aG rfl (fun hb=>?_) (fun hb=>?_)<;>(try exact (fx_ hb).elim))
    | refine aw_block ?_
    | refine aw_exit ?_
    | refine aw_ret ?_
    | refine aw_skip ?_)
   exact bL (bR rfl (by trivial) rfl)
def ZV (a b:List Val):Bool:=decide (0<a.length+b.length)&&decide (a.length+b.length<=1000000)
def FX (a b:List Val):Option (List Val):=bif ZV a b then some (a++b) else none
theorem KP {a b r:List Val} (H:FX a b=some r):Pure Tryz.prog 59 [.one (.lst (a.map cV)), .one (.lst (b.map cV))] (.val (.one (.lst (r.map cV)))):=by
 unfold FX at H
 obtain ⟨g,H⟩:=lJ H
 obtain rfl:=aqw H
 unfold ZV at g
 rw [aqg] at g
 have hc:=Kq a b (aqs g.1) (aqs g.2)
 refine po_ Tryz.func59 Tryz.ntmps59 ?_
 repeat' (first
  | refine st_nil ?_
  | refine t_ rfl rfl rfl rfl ?_
  | refine aM rfl rfl rfl rfl ph_ ?_
  | refine aN rfl rfl rfl rfl ph_ ?_
  | refine sS_ rfl rfl rfl ph_ ?_
  | refine aO rfl rfl rfl rfl ph_ ?_
  | refine aH rfl rfl rfl ?_
  | refine sk0_ rfl rfl ?_
  | refine aZ rfl rfl rfl rfl hc rfl ?_
  | (refine aV rfl (fun hb=>?_) (fun hb=>?_)<;>(first|exact (fx_ hb).elim|rw [hb]))
  | refine aw_seq ?_
  | refine aw_region tab_ok _ rfl ?_
  | refine aw_drawn2 tabS_ok _ rfl mixed (by decide +kernel) ?_
  | (refine aG rfl (fun hb=>?_) (fun hb=>?_)<;>(try exact (fx_ hb).elim))
  | refine aw_block ?_
  | refine aw_exit ?_
  | refine aw_ret ?_
  | refine aw_skip ?_)
 exact bL (bR rfl (by trivial) rfl)
def UX (n:Int):Option (List Val):=bif decide (n<1) then some [] else bif decide (4096<n) then some [] else some (List.replicate n.toNat ⟨0,0,ByteArray.empty⟩)
theorem Zy {n:Int} {r:List Val} (H:UX n=some r):Pure Tryz.prog 60 [.one (.int .i64 n)] (.val (.one (.lst (r.map cV)))):=by
 unfold UX at H
 have hnr:iC (List.replicate n.toNat [SV.c (.int .i64 0), .c (.int .i64 0), .c (.str ByteArray.empty)])=some (List.replicate n.toNat (cV ⟨0,0,ByteArray.empty⟩)):=by
  have:=nA (List.replicate n.toNat (cV ⟨0,0,ByteArray.empty⟩))
  rwa [List.map_replicate] at this
 refine po_ Tryz.func60 Tryz.ntmps60 ?_
 rcases h1:decide (n<1) with _|_
 ·rw [h1,ap1] at H
  rcases h2:decide (4096<n) with _|_
  ·rw [h2,ap1] at H
   obtain rfl:=aqw H
   have g1:=of_decide_eq_false h1
   have g2:=of_decide_eq_false h2
   repeat' (first
    | refine st_nil ?_
    | rw [h1]
    | rw [h2]
    | (refine dS rfl rfl rfl rfl rfl (CS tab_ok (k:=3) (by_:=32) rfl rfl rfl (by decide) rfl rfl rfl rfl rfl (by decide) (by omega) (by omega) (by omega)) ?_)
    | (refine nZ 0 2 (cs:=List.replicate n.toNat (cV ⟨0,0,ByteArray.empty⟩)) rfl hnr rfl (by simp) ?_)
    | refine aM rfl rfl rfl rfl ph_ ?_
    | refine aN rfl rfl rfl rfl ph_ ?_
    | refine sS_ rfl rfl rfl ph_ ?_
    | refine aO rfl rfl rfl rfl ph_ ?_
    | refine aH rfl rfl rfl ?_
    | refine sk0_ rfl rfl ?_
    | (refine aV rfl (fun hb=>?_) (fun hb=>?_)<;>(first|exact (fx_ hb).elim|rw [hb]))
    | refine aw_seq ?_
    | refine aw_region tab_ok _ rfl ?_
    | refine aw_drawn2 tabS_ok _ rfl mixed (by decide +kernel) ?_
    | (refine aG rfl (fun hb=>?_) (fun hb=>?_)<;>(try exact (fx_ hb).elim))
    | refine aw_block ?_
    | refine aw_exit ?_
    | refine aw_ret ?_
    | refine aw_skip ?_)
   exact bL (bR rfl (by trivial) (by rw [List.map_replicate];rfl))
  ·rw [h2,ap2] at H
   obtain rfl:=aqw H
   repeat' (first
    | refine st_nil ?_
    | rw [h1]
    | rw [h2]
    | refine aM rfl rfl rfl rfl ph_ ?_
    | refine aN rfl rfl rfl rfl ph_ ?_
    | refine sS_ rfl rfl rfl ph_ ?_
    | refine aO rfl rfl rfl rfl ph_ ?_
    | refine aH rfl rfl rfl ?_
    | refine sk0_ rfl rfl ?_
    | (refine aV rfl (fun hb=>?_) (fun hb=>?_)<;>(first|exact (fx_ hb).elim|rw [hb]))
    | refine aw_seq ?_
    | refine aw_region tab_ok _ rfl ?_
    | refine aw_drawn2 tabS_ok _ rfl mixed (by decide +kernel) ?_
    | (refine aG rfl (fun hb=>?_) (fun hb=>?_)<;>(try exact (fx_ hb).elim))
    | refine aw_block ?_
    | refine aw_exit ?_
    | refine aw_ret ?_
    | refine aw_skip ?_)
   exact bL (bR rfl (by trivial) rfl)
 ·rw [h1,ap2] at H
  obtain rfl:=aqw H
  repeat' (first
   | refine st_nil ?_
   | rw [h1]
   | refine aM rfl rfl rfl rfl ph_ ?_
   | refine aN rfl rfl rfl rfl ph_ ?_
   | refine sS_ rfl rfl rfl ph_ ?_
   | refine aO rfl rfl rfl rfl ph_ ?_
   | refine aH rfl rfl rfl ?_
   | refine sk0_ rfl rfl ?_
   | (refine aV rfl (fun hb=>?_) (fun hb=>?_)<;>(first|exact (fx_ hb).elim|rw [hb]))
   | refine aw_seq ?_
   | refine aw_region tab_ok _ rfl ?_
   | refine aw_drawn2 tabS_ok _ rfl mixed (by decide +kernel) ?_
   | (refine aG rfl (fun hb=>?_) (fun hb=>?_)<;>(try exact (fx_ hb).elim))
   | refine aw_block ?_
   | refine aw_exit ?_
   | refine aw_ret ?_
   | refine aw_skip ?_)
  exact bL (bR rfl (by trivial) rfl)
section
variable {P:Program} {ti:TI} {N n0:Nat} {T:Tm} {L:List Ob}
theorem aa8 {Q:AX->Tm->List Ob->Prop} {c:Code} (id:Nat) {ver k:Nat} {es:List (List SV)} {cs:List (List AC)} (hid:L[id]?=some (.row ver es k)) (hn':iC es=some cs) (h:Aw P N n0 c Q T (L.set id (.row ver (cs.map (List.map SV.c)) k))):Aw P N n0 c Q T L:=by
 intro hn B R γ w a hi hT
 have hlt:=(ap0.1 hid).1
 have hlen:=wV hn'
 have hm:Mv R R γ γ L (L.set id (.row ver (cs.map (List.map SV.c)) k)):=by
  refine ⟨PH.sub_refl _,by simp,fun t n k' hlt' e=>⟨n,?_,aqe _,fun _=>rfl⟩,fun t ver' es0 k' hlt' e=>?_,fun i b e=>e⟩
  ·have hne:t≠id:=by rintro rfl;rw [aqh hlt'] at e;cases e
   rw [aqi (Ne.symm hne)] at e;exact e
  ·by_cases hne:t=id
   ·subst hne
    rw [aqh hlt'] at e
    injection e with e
    injection e with e1 e2 e3
    subst e1 e2 e3
    exact ⟨ver,es,hid,aqe _,fun _=>⟨by rw [aqa];exact hlen,rfl⟩⟩
   ·rw [aqi (Ne.symm hne)] at e
    exact ⟨ver',es0,e,aqe _,fun _=>⟨rfl,rfl⟩⟩
 refine wp_mono (h (by simpa using hn) B R γ w a ?_ (hT.mv hm)) fun _ _ _ hh=>hh.ext (Ext.refl _ _ _) hi.len (vR.of hn hm)
 refine ⟨by simp [hi.len],hi.val,fun q y g hy hg=>?_,hi.inj,hi.new,hi.bsz⟩
 by_cases hii:q=id
 ·subst hii
  rw [aqh hlt] at hy
  injection hy with hy;subst hy
  have hob:=hi.obj q _ _ hid hg
  match g,hob with
  | .arr b cp,⟨⟨vs,E,h1,h2,h3⟩,h4,h5,h6,h7⟩ =>
   refine ⟨⟨vs,E,h1,h2,fun i e j u x he' hu hx=>?_⟩,by rw [aqa, <- hlen];exact h4,h5,?_,h7⟩
   ·rw [aql] at he'
    cases hc:cs[i]? with
    | none=>rw [hc] at he';cases he'
    | some c0 =>
     rw [hc] at he'
     simp only [Option.map_some,Option.some.injEq] at he'
     subst he'
     rw [aql] at hx
     cases hj:c0[j]? with
     | none=>rw [hj] at hx;cases hx
     | some y =>
      rw [hj] at hx
      simp only [Option.map_some,Option.some.injEq] at hx
      subst hx
      obtain ⟨e,he,hne⟩:=n_ hn' i c0 hc
      have hl:=iO hne
      have hje:j<e.length:=by rw [<- hl];exact (ap0.1 hj).1
      obtain ⟨z,hz⟩ : ∃ z,e[j]?=some z:=⟨_,ap9 hje⟩
      exact SV.norm_rep (h3 i e j u z he hu hz) (oK hne j z y hz hj)
   ·intro e he'
    obtain ⟨c0,hc0,rfl⟩:=aqz.1 he'
    obtain ⟨i,hi',rfl⟩:=List.getElem_of_mem hc0
    obtain ⟨e,he,hne⟩:=n_ hn' i _ (ap9 hi')
    rw [aqa,iO hne]
    exact h6 e (ap6 he)
  | .none,hob =>
   have hes:es=[]:=hob
   subst hes
   have:cs=[]:=aqo (by rw [<- hlen];rfl)
   subst this;rfl
 ·rw [aqi (Ne.symm hii)] at hy
  exact (hi.obj q y g hy hg).mv hm (fun _ _=>rfl) (fun _ _ _ h=>h)
theorem Wo {f:FuncId} {ps:List PV} {L1:List Ob} {r:AV} {p:PV} (h:Run P f [] (ps.map PV.av) L1 r) (hr:r.norm=some p):Pure P f ps (.val p):=by
 refine ⟨h.1,fun R w vs hR hs hv=>?_⟩
 have hi:Inv (· < w.heap.size) R [] [] w:=⟨rfl,hR,fun id x g hx=>by simp at hx,fun i j gi gj h1=>by simp at h1,fun i g b h1=>by simp at h1,fun b hb=>hb⟩
 refine (h.2 (· < w.heap.size) R [] w vs hi (by simpa using hs) fun j v x hjv hx=>?_).mono ?_
 ·rw [aql] at hx
  cases hp:ps[j]? with
  | none=>rw [hp] at hx;cases hx
  | some q =>
   rw [hp] at hx
   simp only [Option.map_some,Option.some.injEq] at hx
   subst hx
   exact PV.av_rep (hv j v q hjv hp)
 ·rintro e w' ⟨v,R',γ',rfl,i1,i2,i3,i4⟩
  exact ⟨v,R',rfl,i2,i1.val,AV.norm_rep i4 hr⟩
end
def M17 (O:Nat->Ob):List Ob:=[O 0,O 1,O 2,O 3,O 4,O 5,O 6,O 7,O 8,O 9,O 10,O 11,O 12,O 13,O 14,O 15,O 16]
theorem aeZ {O O':Nat->Ob} (h : ∀ k,k<17->O k=O' k):M17 O=M17 O':=by
 unfold M17
 rw [h 0 (by omega),h 1 (by omega),h 2 (by omega),h 3 (by omega),h 4 (by omega),h 5 (by omega),h 6 (by omega),h 7 (by omega),h 8 (by omega),h 9 (by omega),h 10 (by omega),h 11 (by omega),h 12 (by omega),h 13 (by omega),h 14 (by omega),h 15 (by omega),h 16 (by omega)]
theorem Vy (O:Nat->Ob):M17 O=(List.range 17).map O:=rfl
theorem akB (O:Nat->Ob) (G:List Ob) {j:Nat} (hj:j<17):(M17 O++G)[j]?=some (O j):=by
 rw [Vy,aqc (by simpa using hj),aql,List.getElem?_range hj];rfl
theorem ajE (O:Nat->Ob) (G:List Ob) {j:Nat} (hj:j<17) (x:Ob):(M17 O++G).set j x=M17 (fun k=>if k=j then x else O k)++G:=by
 rw [Vy,Vy,List.set_append_left _ _ (by simpa using hj)]
 congr 1
 refine List.ext_getElem? fun k=>?_
 rw [List.getElem?_set,aql,aql]
 by_cases hk:j=k
 ·subst hk
  rw [if_pos rfl,if_pos (by simpa using hj),List.getElem?_range hj]
  simp
 ·rw [if_neg hk]
  by_cases hk17:k<17
  ·rw [List.getElem?_range hk17];simp [Ne.symm hk]
  ·rw [aqN (by simpa using hk17)];rfl
section
variable {P:Program} {ti:TI} {N:Nat} {ds:List (Option Tmp)} {K:Tm->List Ob->Prop} {rest:List Oper} {o:Oper} {T:Tm} {L:List Ob}
theorem apq (L:List Ob) (x:Ob) (hx:x.ren [L.length]=x):joinL [] L [x]=L++[x]:=by
 simp [joinL,join,fJ,dK,jF,hx]
theorem co_ {g:FuncId} {asx:List AV} {es:List (List AC)} {n k d:Nat} (hd:o.dst=some d) (hN:Nat.blt d N=true) (hg:kH ds T o.guard=some true) (hp:fM ti (look T) o.op=some (g,asx)) (h:aX P ti N ds K rest ((d, .one (.own es L.length))::T) (L++[.spare n k]))
  (hc:Run P g [] asx [.spare n k] (.one (.own es 0)):=by assumption) (ha:asx=asx.map (AV.ren []):=by rfl) (hb:O0 0 asx=true:=by rfl):aX P ti N ds K (o::rest) T L :=
 eP [] hd hN hg hp hc ha ⟨rfl,List.nodup_nil,fun i y hy=>by simp at hy,fun x hx=>(by cases hx),xK hb⟩ (by simp [AV.ren,SV.ren,dK,jF,oF]) (apq L _ rfl) h
end
theorem am3 {p:Prop} (h:p:=by
 refine bz ?_
 first
  | exact ⟨.inl rfl,⟨.inl ⟨_,rfl,rfl⟩,⟨[],rfl⟩,aqj _,jf rfl,lV rfl⟩⟩
  | exact ⟨.inr rfl,⟨.inl ⟨_,rfl,rfl⟩,⟨[],rfl⟩,aqj _,jf rfl,lV rfl⟩⟩):p:=h
end Go.Proofs.YtlcceppoloaecaaGreatDoor
