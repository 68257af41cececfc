/- Parts of the proof, joined. No condition. -/
import Derived.Test.YtlcceppoloaecaaGreatDoorKAA
import Derived.Test.YtlcceppoloaecaaGreatDoorKBI
import Derived.Test.YtlcceppoloaecaaGreatDoorKAK
import Derived.Test.YtlcceppoloaecaaGreatDoorKBF
import Derived.Test.YtlcceppoloaecaaGreatDoorKAH
set_option linter.unusedSimpArgs false
set_option linter.unusedVariables false
namespace Go.Proofs.YtlcceppoloaecaaGreatDoor
open Go.RowKit Go.MapKept
set_option maxRecDepth 100000
def tF (l:List aV):AC := .lst (l.map a_)
theorem Ad {α:Type} (q:α->Bool) (y:α) : ∀ (b:List α) (k:Nat),fV q (b++[y]) k=fV q b k++(bif q y then [((k+b.length:Nat):Int)] else [])
 | [],k=>by simp [fV]
 | x::b,k=>by
  rw [List.cons_append,fV,fV,Ad q y b (k+1),VD,Vy,show k+1+b.length=k+(b.length+1) by omega]
theorem ji (n v k:Nat) (l:List Int):(Ob.row v (l.map gI) k).below n:=by
 intro e he x hx
 obtain ⟨y,_,rfl⟩:=VK.1 he
 simp [gI] at hx;subst hx;trivial
theorem qp (n v k:Nat) (l:List bA):(Ob.row v (l.map Eo) k).below n:=by
 intro e he x hx
 obtain ⟨y,_,rfl⟩:=VK.1 he
 simp [Eo] at hx;rcases hx with rfl|rfl<;>trivial
theorem Dl (σ:List Nat) (v:Nat) (l:List Int):(Ob.row v (l.map gI) 1).ren σ=Ob.row v (l.map gI) 1:=by
 simp only [Ob.ren,List.map_map];rfl
theorem U6 {L:List Ob} {v:Nat} {l:List Int} {id:Nat} {x:AV} {xs:List AV} (h0:L[id]?=some (Ob.row v (l.map gI) 1)) (hx : ∀ y∈x::xs,y.below 1):iI [id] [Ob.row v (l.map gI) 1] (x::xs) L:=by
 refine ⟨rfl,by simp,fun i y hy=>?_,bG ⟨ji _ _ _ _,trivial⟩,hx⟩
 match i,hy with
 | 0,hy=>simp at hy;subst hy;rw [Dl];exact h0
 | i+1,hy=>simp at hy
theorem jI {L L':List Ob} {v:Nat} {l:List Int} {id:Nat} (h:L.set id (Ob.row v (l.map gI) 1)=L'):joinL [id] L [Ob.row v (l.map gI) 1]=L':=by
 subst h
 simp [joinL,join,gF,cz,qB,Dl]
def vI (n:Nat):Nat:=3+65536+65536*n
def vP (n:Nat):Nat:=63+65536+65536*n
theorem Iu (l:List bA):iE (l.map Eo)=some (l.map jb):=by
 have:=rW (l.map jb)
 rw [List.map_map] at this
 exact this
def ib (b:List aV) (f:bD) (o:List Int) (j:Nat):List Int:=(o.take j).filter fun k=>decide (f.lo<(dV b k).hi)
theorem FU {b:List aV} {f:bD} {o:List Int} {j:Nat} {k:Int} (h:o[j]?=some k):ib b f o (j+1)=ib b f o j++(bif decide (f.lo<(dV b k).hi) then [k] else []):=by
 unfold ib
 rw [iK h,List.filter_append]
 cases hd:decide (f.lo<(dV b k).hi)<;>simp [List.filter,hd]
theorem Jv (b:List aV) (f:bD) (o:List Int) (j:Nat):(ib b f o j).length<=o.length:=by
 unfold ib
 refine Nat.le_trans (List.length_filter_le _ _) ?_
 rw [VX]
 exact Nat.min_le_right _ _
theorem OI (p:Int->Bool) : ∀ (o:List Int) (j:Nat),(∀ k∈o.take j,p k=true)->(∀ k,o[j]?=some k->p k=false)->o.takeWhile p=o.take j
 | [],j,_,_=>by simp
 | x::o,0,_,h=>by simp [List.takeWhile,h x rfl]
 | x::o,j+1,h1,h2=>by
  rw [List.take_succ_cons,List.takeWhile,h1 x (by simp)]
  show x::_=_
  rw [OI p o j (fun k hk=>h1 k (by simp [hk])) (fun k hk=>h2 k (by simpa using hk))]
theorem Ku {b:List aV} {o:List Int} {x:aV} {i j:Nat} {d:List bA} (hop:o.Perm (fV (fun y:aV=>ay y.valid) b 0)) (hos:o.Pairwise fun x y => ¬ kL b y<kL b x) (hv:ay x.valid=true)
  (h1 : ∀ k∈o.take j,(dV b k).lo<x.valid.hi) (h2 : ∀ k,o[j]?=some k -> ¬ (dV b k).lo<x.valid.hi) (hp:d.Perm ((ib b x.valid o j).map fun k=>(⟨i,k⟩:bA))) (hs:d.Pairwise fun x y => ¬ y.b<x.b):d=lS (fun y:aV=>yK x.valid y.valid) i b 0:=by
 have e:Gp b o x.valid=ib b x.valid o j:=by
  unfold Gp ib
  rw [OI (fun k=>decide ((dV b k).lo<x.valid.hi)) o j (fun k hk=>by simpa using h1 k hk) (fun k hk=>by simpa using h2 k hk)]
 have hlo : ∀ k,kL b k=(dV b k).lo:=fun k=>by unfold kL dV;cases b[k.toNat]?<;>rfl
 refine I9 hp hs (e▸I6 hop ?_ hv) (xg _ _ _)
 refine hos.imp ?_
 intro x y h
 rw [<- hlo, <- hlo];exact h
theorem CU (σ:List Nat) (v:Nat) (l:List bA):(Ob.row v (l.map Eo) 2).ren σ=Ob.row v (l.map Eo) 2:=by
 simp only [Ob.ren,List.map_map];rfl
theorem U3 {L:List Ob} {v:Nat} {l:List bA} {id:Nat} {x:AV} {xs:List AV} (h0:L[id]?=some (Ob.row v (l.map Eo) 2)) (hx : ∀ y∈x::xs,y.below 1):iI [id] [Ob.row v (l.map Eo) 2] (x::xs) L:=by
 refine ⟨rfl,by simp,fun i y hy=>?_,bG ⟨qp 1 _ _ _,trivial⟩,hx⟩
 match i,hy with
 | 0,hy=>simp at hy;subst hy;rw [CU];exact h0
 | i+1,hy=>simp at hy
theorem jP {L L':List Ob} {v:Nat} {l:List bA} {id:Nat} (h:L.set id (Ob.row v (l.map Eo) 2)=L'):joinL [id] L [Ob.row v (l.map Eo) 2]=L':=by
 subst h
 simp [joinL,join,gF,cz,qB,CU]
def IT (a b:List aV) (n p m i j:Nat):Tm:=[(3, .one (.c (.ref [tF b]))),(5, .one (.sl 1 (vI n) 0 n)),(8, .one (.sl 2 (vP m) 0 m)),(9, .one (.c (.int .i64 i))),(10, .one (.ptr 3 0)),(11, .one (.c (.int .i64 p))),(32, .one (.c (tF a))),(33, .one (.c (.int .i64 a.length))),(34, .one (.c (.int .i64 i))),(45, .one (.sl 1 (vI n) 0 n)),(46, .one (.c (.int .i64 n))),(47, .one (.c (.int .i64 j)))]
theorem wC (a b:List aV) (n p m i j:Nat):uo 4 (IT a b n p m i j):=⟨trivial,(by show 1<4;omega),(by show 2<4;omega),trivial,(by show 3<4;omega),trivial,trivial,trivial,trivial,(by show 1<4;omega),trivial,trivial,trivial⟩
theorem yh (v w:Nat) (o:List Int) (p:List bA) (x:aV):tK 4 [.dead, .row v (o.map gI) 1, .row w (p.map Eo) 2, .box ((a_ x).map SV.c)]:=⟨trivial,ji _ _ _ _,qp _ _ _ _,(by intro y hy;obtain ⟨z,_,rfl⟩:=VK.1 hy;trivial),trivial⟩
def Hw (a b:List aV) (i:Nat):List bA:=cO (fun x y:aV=>yK x.valid y.valid) b (a.take i) 0
theorem Ap {α:Type} {q:α->Bool} (h : ∀ y,q y=false) : ∀ (b:List α) (k:Nat),fV q b k=[]
 | [],_=>rfl
 | x::b,k=>by rw [fV,h,Ap h b];rfl
theorem zS {α:Type} (q:α->α->Bool) (b:List α) (x:α) : ∀ (a:List α) (k:Nat),cO q b (a++[x]) k=cO q b a k++lS (q x) ((k+a.length:Nat):Int) b 0
 | [],k=>by simp [cO]
 | y::a,k=>by
  rw [List.cons_append,cO,cO,zS q b x a (k+1),VD,Vy,show k+1+a.length=k+(a.length+1) by omega]
theorem KC {a b:List aV} {i:Nat} {x:aV} (hx:a[i]?=some x):Hw a b (i+1)=Hw a b i++lS (fun y:aV=>yK x.valid y.valid) i b 0:=by
 unfold Hw
 have hi:i<a.length:=by
  rcases Nat.lt_or_ge i a.length with h|h
  ·exact h
  ·rw [VV h] at hx;cases hx
 rw [iK hx,zS,VX,VQ,Nat.min_eq_left (by omega)]
theorem wH {α:Type} (q:α->α->Bool) (b:List α) : ∀ (a:List α) (k:Nat),(cO q b a k).length<=a.length*b.length
 | [],_=>Vx _
 | x::a,k=>by
  rw [cO,Vk,Vy,Nat.succ_mul]
  have h1:=wH q b a (k+1)
  have h2:(lS (q x) (k:Int) b 0).length<=b.length:=by unfold lS;rw [Vo];exact qP _ _ _
  omega
theorem Nb {a b:List aV} {i:Nat} (hi:i<a.length) (hb:b.length<=1000):(Hw a b i).length<=i*1000:=by
 have:=wH (fun x y:aV=>yK x.valid y.valid) b (a.take i) 0
 rw [VX,Nat.min_eq_left (by omega)] at this
 exact Nat.le_trans this (Nat.mul_le_mul_left _ hb)
def OT (a b:List aV) (n m i:Nat):Tm:=[(3, .one (.c (.ref [tF b]))),(5, .one (.sl 1 (vI n) 0 n)),(8, .one (.sl 2 (vP m) 0 m)),(32, .one (.c (tF a))),(33, .one (.c (.int .i64 a.length))),(34, .one (.c (.int .i64 i)))]
theorem rV (a b:List aV) (n m i k:Nat):uo (k+3) (OT a b n m i):=⟨trivial,(by show 1<k+3;omega),(by show 2<k+3;omega),trivial,trivial,trivial,trivial⟩
theorem ru (v w:Nat) (o:List Int) (p:List bA):tK 3 [.dead, .row v (o.map gI) 1, .row w (p.map Eo) 2]:=⟨trivial,ji _ _ _ _,qp _ _ _ _,trivial⟩
def jm (b:List aV) (i:Nat):List Int:=fV (fun y:aV=>ay y.valid) (b.take i) 0
set_option maxHeartbeats 4000000 in
theorem Fu (a b:List aV) (ha:a.length<=1000) (hb:b.length<=1000):Pure Tryz.prog 12 [.one (tF a), .one (tF b)] (.val (.one (.lst ((cO (fun x y:aV=>yK x.valid y.valid) b a 0).map jb)))):=by
 have hB:=hb
 refine pa_ ae Tryz.func12 rfl rfl Tryz.ntmps12 (by simp) ?_
 simp only [argT,PV.av,Vn,Vr]
 repeat' (first
  | refine st_nil ?_
  | (refine aF rfl rfl rfl rfl ?_ ?_; · (repeat' (first|exact trivial|rfl|exact Vm rfl|omega|exact aZ (by intro _;rfl) _|(intro e he;simp at he;subst he;rfl)|apply And.intro)))
  | (refine aK rfl rfl rfl rfl ?_ ?_; · (repeat' (first|exact trivial|rfl|exact Vm rfl|omega|exact aZ (by intro _;rfl) _|(intro e he;simp at he;subst he;rfl)|apply And.intro)))
  | (refine sS_ rfl rfl rfl ?_ ?_; · (repeat' (first|exact trivial|rfl|exact Vm rfl|omega|exact aZ (by intro _;rfl) _|(intro e he;simp at he;subst he;rfl)|apply And.intro)))
  | (refine aI rfl rfl rfl rfl ?_ ?_; · (repeat' (first|exact trivial|rfl|exact Vm rfl|omega|exact aZ (by intro _;rfl) _|(intro e he;simp at he;subst he;rfl)|apply And.intro)))
  | refine aD rfl rfl rfl ?_
  | refine sk0_ rfl rfl ?_
  | (refine bg rfl (fun hb=>?_) (fun hb=>?_)<;>(first|exact (fx_ hb).elim|rw [hb]))
  | refine aw_seq ?_
  | refine aw_region ae _ rfl ?_
  | refine aw_drawn2 tabS_ok _ rfl mixed (by decide +kernel) ?_
  | (refine aA rfl (fun hb=>?_) (fun hb=>?_)<;>(try exact (fx_ hb).elim))
  | refine aw_block ?_
  | refine aw_exit ?_
  | refine aw_ret ?_
  | refine aw_skip ?_)
 refine Ba 5 (vI 0) 1 rfl (by unfold vI;omega) ?_
 refine nX (fun i:Nat=>[(0, .one (.c (tF a))),(3, .one (.ptr 0 0)),(5, .one (.sl 1 (vI (jm b i).length) 0 (jm b i).length)),(14, .one (.c (tF b))),(15, .one (.c (.int .i64 b.length))),(16, .one (.c (.int .i64 i)))])
  (fun i=>[.box [.c (tF b)], .row (vI (jm b i).length) ((jm b i).map gI) 1]) (fun i=>i<=b.length) (fun i=>b.length-i) 0 (by omega) (fun _ _=>Vx _)
  (fm_ ⟨rfl,rfl,rfl,rfl,eH (by simp),rfl,trivial⟩ [] rfl ⟨trivial,(by show 0<2;omega),(by show 1<2;omega),trivial,trivial,trivial,trivial⟩ ⟨(by intro x hx;simp at hx;subst hx;trivial),ji _ _ _ _,trivial⟩) ?_
 ·intro i hi
  have BELT : ∀ j,uo 2 [(0,AV.one (.c (tF a))),(3, .one (.ptr 0 0)),(5, .one (.sl 1 (vI (jm b j).length) 0 (jm b j).length)),(14, .one (.c (tF b))),(15, .one (.c (.int .i64 b.length))),(16, .one (.c (.int .i64 j)))]:=fun j=>⟨trivial,(by show 0<2;omega),(by show 1<2;omega),trivial,trivial,trivial,trivial⟩
  have BELL : ∀ j,tK 2 [Ob.box [.c (tF b)], .row (vI (jm b j).length) ((jm b j).map gI) 1]:=fun j=>⟨(by intro x hx;simp at hx;subst hx;trivial),ji _ _ _ _,trivial⟩
  by_cases hlt:i<b.length
  ·obtain ⟨x,hx⟩:=gol_ hlt
   have hpv:=Cm (nP x.valid)
   have hnx:jm b (i+1)=jm b i++(bif ay x.valid then [(i:Int)] else []):=by
    unfold jm
    rw [iK hx,Ad,VX,VQ,Nat.min_eq_left (by omega)]
   have hle:(jm b i).length<=1000:=by have:=qP (fun y:aV=>ay y.valid) (b.take i) 0;rw [VX] at this;unfold jm;omega
   generalize jm b i=o at hnx hle
   cases hv:ay x.valid with
   | true =>
    rw [hv] at hpv hnx
    rw [Ve] at hnx
    have hl:(jm b (i+1)).length=o.length+1:=by rw [hnx];simp
    have hv1:vI (o.length+1)=vI o.length+65536:=by unfold vI;omega
    have hm:(o.map gI).length=o.length:=by simp
    repeat' (first
     | refine st_nil ?_
     | (refine gJ rfl rfl rfl rfl rfl (iH ae (k:=1) (by_:=8) (xs:=[gI i]) rfl rfl rfl rfl ⟨rfl,_,rfl,by intro e he;simp at he;subst he;rfl⟩ rfl (by unfold vI;omega) rfl rfl rfl (by decide) hm (by simp only [List.length_singleton];omega) (by simp only [List.length_singleton];omega)) ?_)
     | (refine aF rfl rfl rfl rfl ?_ ?_; · (repeat' (first|exact trivial|rfl|exact Vm rfl|omega|exact aZ (by intro _;rfl) _|(intro e he;simp at he;subst he;rfl)|apply And.intro)))
     | (refine tH rfl rfl rfl rfl rfl rfl rfl rfl (rG hx) ?_ ?_; · exact ⟨by omega,rfl⟩)
     | (refine aK rfl rfl rfl rfl ?_ ?_; · (repeat' (first|exact trivial|rfl|exact Vm rfl|omega|exact aZ (by intro _;rfl) _|(intro e he;simp at he;subst he;rfl)|apply And.intro)))
     | (refine sS_ rfl rfl rfl ?_ ?_; · (repeat' (first|exact trivial|rfl|exact Vm rfl|omega|exact aZ (by intro _;rfl) _|(intro e he;simp at he;subst he;rfl)|apply And.intro)))
     | (refine aI rfl rfl rfl rfl ?_ ?_; · (repeat' (first|exact trivial|rfl|exact Vm rfl|omega|exact aZ (by intro _;rfl) _|(intro e he;simp at he;subst he;rfl)|apply And.intro)))
     | refine aD rfl rfl rfl ?_
     | refine sk0_ rfl rfl ?_
     | refine dz rfl rfl rfl rfl hpv rfl ?_
     | (refine bg rfl (fun hb=>?_) (fun hb=>?_)<;>(first|exact (fx_ hb).elim|rw [hb]))
     | refine aw_seq ?_
     | refine aw_region ae _ rfl ?_
     | refine aw_drawn2 tabS_ok _ rfl mixed (by decide +kernel) ?_
     | (refine aA rfl (fun hb=>?_) (fun hb=>?_)<;>(try exact (fx_ hb).elim))
     | refine aw_block ?_
     | refine aw_exit ?_
     | refine aw_ret ?_
     | refine aw_skip ?_)
    exact ⟨i+1,by omega,by omega,fm_ ⟨rfl,rfl,(by rw [hl,hv1];rfl),rfl,rfl,eH (dm (by omega) (by omega)),trivial⟩ [_] (by rw [hl,hv1,hnx,Vp];rfl) (BELT _) (BELL _)⟩
   | false =>
    rw [hv] at hpv hnx
    rw [Vd,VJ] at hnx
    repeat' (first
     | refine st_nil ?_
     | (refine aF rfl rfl rfl rfl ?_ ?_; · (repeat' (first|exact trivial|rfl|exact Vm rfl|omega|exact aZ (by intro _;rfl) _|(intro e he;simp at he;subst he;rfl)|apply And.intro)))
     | (refine tH rfl rfl rfl rfl rfl rfl rfl rfl (rG hx) ?_ ?_; · exact ⟨by omega,rfl⟩)
     | (refine aK rfl rfl rfl rfl ?_ ?_; · (repeat' (first|exact trivial|rfl|exact Vm rfl|omega|exact aZ (by intro _;rfl) _|(intro e he;simp at he;subst he;rfl)|apply And.intro)))
     | (refine sS_ rfl rfl rfl ?_ ?_; · (repeat' (first|exact trivial|rfl|exact Vm rfl|omega|exact aZ (by intro _;rfl) _|(intro e he;simp at he;subst he;rfl)|apply And.intro)))
     | (refine aI rfl rfl rfl rfl ?_ ?_; · (repeat' (first|exact trivial|rfl|exact Vm rfl|omega|exact aZ (by intro _;rfl) _|(intro e he;simp at he;subst he;rfl)|apply And.intro)))
     | refine aD rfl rfl rfl ?_
     | refine sk0_ rfl rfl ?_
     | refine dz rfl rfl rfl rfl hpv rfl ?_
     | (refine bg rfl (fun hb=>?_) (fun hb=>?_)<;>(first|exact (fx_ hb).elim|rw [hb]))
     | refine aw_seq ?_
     | refine aw_region ae _ rfl ?_
     | refine aw_drawn2 tabS_ok _ rfl mixed (by decide +kernel) ?_
     | (refine aA rfl (fun hb=>?_) (fun hb=>?_)<;>(try exact (fx_ hb).elim))
     | refine aw_block ?_
     | refine aw_exit ?_
     | refine aw_ret ?_
     | refine aw_skip ?_)
    exact ⟨i+1,by omega,by omega,fm_ ⟨rfl,rfl,(by rw [hnx];rfl),rfl,rfl,eH (dm (by omega) (by omega)),trivial⟩ [_] (by rw [hnx];rfl) (BELT _) (BELL _)⟩
  ·have hi2:i=b.length:=by omega
   subst hi2
   have ho:jm b b.length=fV (fun y:aV=>ay y.valid) b 0:=by unfold jm;rw [List.take_length]
   have hor : ∀ k∈jm b b.length,0<=k/\k<(b.length:Int):=fun k hk=>by
    rw [ho] at hk
    have:=vC _ b 0 k hk
    omega
   have hle:(jm b b.length).length<=1000:=by rw [ho];have:=qP (fun y:aV=>ay y.valid) b 0;omega
   obtain ⟨o,hop,hos,hsort⟩:=DX hb hor (vI (jm b b.length).length) (jm b b.length).length rfl (by omega)
   rw [ho] at hop
   have hon:o.length=(jm b b.length).length:=by rw [ho];exact hop.length_eq
   generalize jm b b.length=o0 at hsort hle hon ⊢
   repeat' (first
    | refine st_nil ?_
    | (refine qY 0 (cs:=[.c (tF b)]) (ts:=[tF b]) rfl rfl ?_)
    | (refine aF rfl rfl rfl rfl ?_ ?_; · (repeat' (first|exact trivial|rfl|exact Vm rfl|omega|exact aZ (by intro _;rfl) _|(intro e he;simp at he;subst he;rfl)|apply And.intro)))
    | (refine aK rfl rfl rfl rfl ?_ ?_; · (repeat' (first|exact trivial|rfl|exact Vm rfl|omega|exact aZ (by intro _;rfl) _|(intro e he;simp at he;subst he;rfl)|apply And.intro)))
    | (refine sS_ rfl rfl rfl ?_ ?_; · (repeat' (first|exact trivial|rfl|exact Vm rfl|omega|exact aZ (by intro _;rfl) _|(intro e he;simp at he;subst he;rfl)|apply And.intro)))
    | (refine aI rfl rfl rfl rfl ?_ ?_; · (repeat' (first|exact trivial|rfl|exact Vm rfl|omega|exact aZ (by intro _;rfl) _|(intro e he;simp at he;subst he;rfl)|apply And.intro)))
    | refine aD rfl rfl rfl ?_
    | refine sk0_ rfl rfl ?_
    | (refine nA [1] rfl rfl rfl rfl hsort rfl (U6 rfl (l6 ⟨(by show 0<1;omega),trivial,trivial⟩)) rfl (jI rfl) ?_)
    | (refine bg rfl (fun hb=>?_) (fun hb=>?_)<;>(first|exact (fx_ hb).elim|rw [hb]))
    | refine aw_seq ?_
    | refine aw_region ae _ rfl ?_
    | refine aw_drawn2 tabS_ok _ rfl mixed (by decide +kernel) ?_
    | (refine aA rfl (fun hb=>?_) (fun hb=>?_)<;>(try exact (fx_ hb).elim))
    | refine aw_block ?_
    | refine aw_exit ?_
    | refine aw_ret ?_
    | refine aw_skip ?_)
   refine Ba 8 (vP 0) 2 rfl (by unfold vP;omega) ?_
   refine nX (fun i:Nat=>OT a b o0.length (Hw a b i).length i) (fun i=>[.dead, .row (vI o0.length) (o.map gI) 1, .row (vP (Hw a b i).length) ((Hw a b i).map Eo) 2]) (fun i=>i<=a.length) (fun i=>a.length-i) 0 (by omega) (fun _ _=>Vx _)
    (fm_ ⟨rfl,rfl,rfl,rfl,eH (by simp),rfl,trivial⟩ [] rfl (rV a b _ _ _ 0) (ru _ _ _ _)) ?_
   intro i hi
   by_cases hlt:i<a.length
   ·obtain ⟨x,hx⟩:=gol_ hlt
    have hpv:=Cm (nP x.valid)
    have hnx:=KC (b:=b) hx
    have hpl:=Nb hlt hB
    unfold OT
    generalize Hw a b i=pr at hnx hpl ⊢
    cases hv:ay x.valid with
    | false =>
     rw [hv] at hpv
     repeat' (first
      | refine st_nil ?_
      | (refine aF rfl rfl rfl rfl ?_ ?_; · (repeat' (first|exact trivial|rfl|exact Vm rfl|omega|exact aZ (by intro _;rfl) _|(intro e he;simp at he;subst he;rfl)|apply And.intro)))
      | (refine tH rfl rfl rfl rfl rfl rfl rfl rfl (rG hx) ?_ ?_; · exact ⟨by omega,rfl⟩)
      | (refine aK rfl rfl rfl rfl ?_ ?_; · (repeat' (first|exact trivial|rfl|exact Vm rfl|omega|exact aZ (by intro _;rfl) _|(intro e he;simp at he;subst he;rfl)|apply And.intro)))
      | (refine sS_ rfl rfl rfl ?_ ?_; · (repeat' (first|exact trivial|rfl|exact Vm rfl|omega|exact aZ (by intro _;rfl) _|(intro e he;simp at he;subst he;rfl)|apply And.intro)))
      | (refine aI rfl rfl rfl rfl ?_ ?_; · (repeat' (first|exact trivial|rfl|exact Vm rfl|omega|exact aZ (by intro _;rfl) _|(intro e he;simp at he;subst he;rfl)|apply And.intro)))
      | refine aD rfl rfl rfl ?_
      | refine sk0_ rfl rfl ?_
      | refine dz rfl rfl rfl rfl hpv rfl ?_
      | (refine bg rfl (fun hb=>?_) (fun hb=>?_)<;>(first|exact (fx_ hb).elim|rw [hb]))
      | refine aw_seq ?_
      | refine aw_region ae _ rfl ?_
      | refine aw_drawn2 tabS_ok _ rfl mixed (by decide +kernel) ?_
      | (refine aA rfl (fun hb=>?_) (fun hb=>?_)<;>(try exact (fx_ hb).elim))
      | refine aw_block ?_
      | refine aw_exit ?_
      | refine aw_ret ?_
      | refine aw_skip ?_
      | refine nz ?_
      | refine nG ?_)
     have hz:Hw a b (i+1)=pr:=by
      rw [hnx,lS,Ap (q:=fun y:aV=>yK x.valid y.valid) (fun y=>by unfold yK;rw [hv];rfl)]
      simp
     exact ⟨i+1,by omega,by omega,fm_ ⟨rfl,rfl,(by rw [hz];rfl),rfl,rfl,eH (dm (by omega) (by omega)),trivial⟩ [_] (by rw [hz];rfl) (rV a b _ _ _ 0) (ru _ _ _ _)⟩
    | true =>
     rw [hv] at hpv
     repeat' (first
      | refine st_nil ?_
      | (refine aF rfl rfl rfl rfl ?_ ?_; · (repeat' (first|exact trivial|rfl|exact Vm rfl|omega|exact aZ (by intro _;rfl) _|(intro e he;simp at he;subst he;rfl)|apply And.intro)))
      | (refine tH rfl rfl rfl rfl rfl rfl rfl rfl (rG hx) ?_ ?_; · exact ⟨by omega,rfl⟩)
      | (refine aK rfl rfl rfl rfl ?_ ?_; · (repeat' (first|exact trivial|rfl|exact Vm rfl|omega|exact aZ (by intro _;rfl) _|(intro e he;simp at he;subst he;rfl)|apply And.intro)))
      | (refine sS_ rfl rfl rfl ?_ ?_; · (repeat' (first|exact trivial|rfl|exact Vm rfl|omega|exact aZ (by intro _;rfl) _|(intro e he;simp at he;subst he;rfl)|apply And.intro)))
      | (refine aI rfl rfl rfl rfl ?_ ?_; · (repeat' (first|exact trivial|rfl|exact Vm rfl|omega|exact aZ (by intro _;rfl) _|(intro e he;simp at he;subst he;rfl)|apply And.intro)))
      | refine aD rfl rfl rfl ?_
      | refine sk0_ rfl rfl ?_
      | refine dz rfl rfl rfl rfl hpv rfl ?_
      | (refine bg rfl (fun hb=>?_) (fun hb=>?_)<;>(first|exact (fx_ hb).elim|rw [hb]))
      | refine aw_seq ?_
      | refine aw_region ae _ rfl ?_
      | refine aw_drawn2 tabS_ok _ rfl mixed (by decide +kernel) ?_
      | (refine aA rfl (fun hb=>?_) (fun hb=>?_)<;>(try exact (fx_ hb).elim))
      | refine aw_block ?_
      | refine aw_exit ?_
      | refine aw_ret ?_
      | refine aw_skip ?_
      | refine nz ?_
      | refine nG ?_)
     refine nX (fun j:Nat=>IT a b o0.length pr.length (pr.length+(ib b x.valid o j).length) i j) (fun j=>[.dead, .row (vI o0.length) (o.map gI) 1, .row (vP (pr.length+(ib b x.valid o j).length)) ((pr++(ib b x.valid o j).map fun k=>(⟨i,k⟩:bA)).map Eo) 2, .box ((a_ x).map SV.c)])
      (fun j=>j<=o0.length /\ ∀ k∈o.take j,(dV b k).lo<x.valid.hi) (fun j=>o0.length-j) 0 ⟨by omega,by intro k hk;simp at hk⟩ (fun _ _=>Vx _)
      (fm_ ⟨rfl,rfl,rfl,rfl,rfl,rfl,rfl,rfl,rfl,rfl,rfl,eH (by simp),trivial⟩ [] (by simp [ib];rfl) (wC _ _ _ _ _ _ _) (yh _ _ _ _ _)) ?_
     rintro j ⟨hj,hbel⟩
     have hsl:=Jv b x.valid o j
     have hsu:=fun k=>FU (b:=b) (f:=x.valid) (o:=o) (j:=j) (k:=k)
     obtain ⟨d,hdp,hds,hrun⟩:=Fg pr ((ib b x.valid o j).map fun k=>(⟨i,k⟩:bA)) (vP (pr.length+(ib b x.valid o j).length)) (0+pr.length) (pr.length+(ib b x.valid o j).length-pr.length) (by simp) (by simp) (by omega)
     have hfin:=fun h2=>Ku hop hos hv hbel h2 hdp hds
     have hdl:=hdp.length_eq
     rw [Vo] at hdl
     unfold IT
     generalize ib b x.valid o j=ss at hsl hsu hrun hdl ⊢
     by_cases hjl:j<o0.length
     ·obtain ⟨k,hk⟩:=gol_ (l:=o) (i:=j) (by omega)
      have hkr:0<=k/\k<(b.length:Int):=by
       have h1:=hop.mem_iff.1 (Vi hk)
       have:=vC _ b 0 k h1
       omega
      obtain ⟨hk0,hkb⟩:=hkr
      obtain ⟨y,hy⟩:=gol_ (l:=b) (i:=k.toNat) (by omega)
      have hpa:dV b k=y.valid:=by unfold dV;rw [hy]
      have hgk:(o.map gI)[0+j]?=some (gI k):=by rw [VQ,Vz,hk];rfl
      have hv1:vP (pr.length+ss.length+1)=vP (pr.length+ss.length)+65536:=by unfold vP;omega
      have hm:((pr++ss.map fun k=>(⟨i,k⟩:bA)).map Eo).length=pr.length+ss.length:=by simp
      repeat' (first
       | refine st_nil ?_
       | (refine gJ rfl rfl rfl rfl rfl (iH ae (k:=2) (by_:=16) (xs:=[Eo ⟨i,k⟩]) rfl rfl rfl rfl ⟨rfl,_,rfl,by intro e he;simp at he;subst he;rfl⟩ rfl (by unfold vP;omega) rfl rfl rfl (by decide) hm (by simp only [List.length_singleton];omega) (by simp only [List.length_singleton];omega)) ?_)
       | (refine Pn rfl rfl rfl rfl rfl rfl rfl (e:=gI k) (by exact hgk) rfl ?_)
       | (refine aF rfl rfl rfl rfl ?_ ?_; · (repeat' (first|exact trivial|rfl|exact Vm rfl|omega|exact aZ (by intro _;rfl) _|(intro e he;simp at he;subst he;rfl)|apply And.intro)))
       | (refine tH rfl rfl rfl rfl rfl rfl rfl rfl (rG hy) ?_ ?_; · exact ⟨by omega,rfl⟩)
       | (refine aK rfl rfl rfl rfl ?_ ?_; · (repeat' (first|exact trivial|rfl|exact Vm rfl|omega|exact aZ (by intro _;rfl) _|(intro e he;simp at he;subst he;rfl)|apply And.intro)))
       | (refine sS_ rfl rfl rfl ?_ ?_; · (repeat' (first|exact trivial|rfl|exact Vm rfl|omega|exact aZ (by intro _;rfl) _|(intro e he;simp at he;subst he;rfl)|apply And.intro)))
       | (refine aI rfl rfl rfl rfl ?_ ?_; · (repeat' (first|exact trivial|rfl|exact Vm rfl|omega|exact aZ (by intro _;rfl) _|(intro e he;simp at he;subst he;rfl)|apply And.intro)))
       | refine aD rfl rfl rfl ?_
       | refine sk0_ rfl rfl ?_
       | (refine nA [2] rfl rfl rfl rfl hrun rfl (U3 rfl (l6 ⟨(by show 0<1;omega),trivial,trivial⟩)) rfl (jP rfl) ?_)
       | (refine bg rfl (fun hb=>?_) (fun hb=>?_)<;>(first|exact (fx_ hb).elim|rw [hb]))
       | refine aw_seq ?_
       | refine aw_region ae _ rfl ?_
       | refine aw_drawn2 tabS_ok _ rfl mixed (by decide +kernel) ?_
       | (refine aA rfl (fun hb=>?_) (fun hb=>?_)<;>(try exact (fx_ hb).elim))
       | refine aw_block ?_
       | refine aw_exit ?_
       | refine aw_ret ?_
       | refine aw_skip ?_
       | refine nz ?_
       | refine nG ?_)
      ·have hd2:=hfin fun k' hk'=>by
        have:k'=k:=VI (hk'.symm.trans hk)
        subst this
        rw [hpa]
        have:=VF hb
        omega
       rw [<- hd2] at hnx
       have hpl2:(Hw a b (i+1)).length=pr.length+ss.length:=by rw [hnx,Vk,hdl]
       exact ⟨i+1,by omega,by omega,fm_ ⟨rfl,rfl,(by rw [hpl2];rfl),rfl,rfl,eH (dm (by omega) (by omega)),trivial⟩ [_] (by rw [hpl2,hnx];rfl) (rV a b _ _ _ 0) (ru _ _ _ _)⟩
      ·rename_i h1 h2
       have hc:decide (x.valid.lo<(dV b k).hi)=true:=by rw [hpa];exact hb
       have hs:=hsu k hk
       rw [hc,Ve] at hs
       have hbl : ∀ k'∈o.take (j+1),(dV b k').lo<x.valid.hi:=by
        intro k' hk'
        rw [iK hk,VE] at hk'
        rcases hk' with h|h
        ·exact hbel k' h
        ·simp at h;subst h;rw [hpa];have:=of_decide_eq_false h2;omega
       have hl:(ib b x.valid o (j+1)).length=ss.length+1:=by rw [hs];simp
       exact ⟨j+1,⟨by omega,hbl⟩,by omega,fm_ ⟨rfl,rfl,(by rw [hl, <- Nat.add_assoc,hv1];rfl),rfl,rfl,rfl,rfl,rfl,rfl,rfl,rfl,eH (dm (by omega) (by omega)),trivial⟩ [] (by rw [hl, <- Nat.add_assoc,hv1,hs];simp) (wC _ _ _ _ _ _ _) (yh _ _ _ _ _)⟩
      ·rename_i h1 h2
       have hc:decide (x.valid.lo<(dV b k).hi)=false:=by rw [hpa];exact hb
       have hs:=hsu k hk
       rw [hc,Vd,VJ] at hs
       have hbl : ∀ k'∈o.take (j+1),(dV b k').lo<x.valid.hi:=by
        intro k' hk'
        rw [iK hk,VE] at hk'
        rcases hk' with h|h
        ·exact hbel k' h
        ·simp at h;subst h;rw [hpa];have:=of_decide_eq_false h2;omega
       exact ⟨j+1,⟨by omega,hbl⟩,by omega,fm_ ⟨rfl,rfl,(by rw [hs];rfl),rfl,rfl,rfl,rfl,rfl,rfl,rfl,rfl,eH (dm (by omega) (by omega)),trivial⟩ [] (by rw [hs];simp) (wC _ _ _ _ _ _ _) (yh _ _ _ _ _)⟩
     ·have hj2:j=o0.length:=by omega
      subst hj2
      repeat' (first
       | refine st_nil ?_
       | (refine aF rfl rfl rfl rfl ?_ ?_; · (repeat' (first|exact trivial|rfl|exact Vm rfl|omega|exact aZ (by intro _;rfl) _|(intro e he;simp at he;subst he;rfl)|apply And.intro)))
       | (refine aK rfl rfl rfl rfl ?_ ?_; · (repeat' (first|exact trivial|rfl|exact Vm rfl|omega|exact aZ (by intro _;rfl) _|(intro e he;simp at he;subst he;rfl)|apply And.intro)))
       | (refine sS_ rfl rfl rfl ?_ ?_; · (repeat' (first|exact trivial|rfl|exact Vm rfl|omega|exact aZ (by intro _;rfl) _|(intro e he;simp at he;subst he;rfl)|apply And.intro)))
       | (refine aI rfl rfl rfl rfl ?_ ?_; · (repeat' (first|exact trivial|rfl|exact Vm rfl|omega|exact aZ (by intro _;rfl) _|(intro e he;simp at he;subst he;rfl)|apply And.intro)))
       | refine aD rfl rfl rfl ?_
       | refine sk0_ rfl rfl ?_
       | (refine nA [2] rfl rfl rfl rfl hrun rfl (U3 rfl (l6 ⟨(by show 0<1;omega),trivial,trivial⟩)) rfl (jP rfl) ?_)
       | (refine bg rfl (fun hb=>?_) (fun hb=>?_)<;>(first|exact (fx_ hb).elim|rw [hb]))
       | refine aw_seq ?_
       | refine aw_region ae _ rfl ?_
       | refine aw_drawn2 tabS_ok _ rfl mixed (by decide +kernel) ?_
       | (refine aA rfl (fun hb=>?_) (fun hb=>?_)<;>(try exact (fx_ hb).elim))
       | refine aw_block ?_
       | refine aw_exit ?_
       | refine aw_ret ?_
       | refine aw_skip ?_
       | refine nz ?_
       | refine nG ?_)
      have hd2:=hfin fun k hk=>by rw [VV (by omega)] at hk;cases hk
      rw [<- hd2] at hnx
      have hpl2:(Hw a b (i+1)).length=pr.length+ss.length:=by rw [hnx,Vk,hdl]
      exact ⟨i+1,by omega,by omega,fm_ ⟨rfl,rfl,(by rw [hpl2];rfl),rfl,rfl,eH (dm (by omega) (by omega)),trivial⟩ [_] (by rw [hpl2,hnx];rfl) (rV a b _ _ _ 0) (ru _ _ _ _)⟩
   ·have hi2:i=a.length:=by omega
    subst hi2
    unfold OT
    refine pG 2 8 (cs:=(Hw a b a.length).map jb) rfl (Iu _) rfl (by simp) ?_
    repeat' (first
     | refine st_nil ?_
     | (refine aF rfl rfl rfl rfl ?_ ?_; · (repeat' (first|exact trivial|rfl|exact Vm rfl|omega|exact aZ (by intro _;rfl) _|(intro e he;simp at he;subst he;rfl)|apply And.intro)))
     | (refine aK rfl rfl rfl rfl ?_ ?_; · (repeat' (first|exact trivial|rfl|exact Vm rfl|omega|exact aZ (by intro _;rfl) _|(intro e he;simp at he;subst he;rfl)|apply And.intro)))
     | (refine sS_ rfl rfl rfl ?_ ?_; · (repeat' (first|exact trivial|rfl|exact Vm rfl|omega|exact aZ (by intro _;rfl) _|(intro e he;simp at he;subst he;rfl)|apply And.intro)))
     | (refine aI rfl rfl rfl rfl ?_ ?_; · (repeat' (first|exact trivial|rfl|exact Vm rfl|omega|exact aZ (by intro _;rfl) _|(intro e he;simp at he;subst he;rfl)|apply And.intro)))
     | refine aD rfl rfl rfl ?_
     | refine sk0_ rfl rfl ?_
     | (refine bg rfl (fun hb=>?_) (fun hb=>?_)<;>(first|exact (fx_ hb).elim|rw [hb]))
     | refine aw_seq ?_
     | refine aw_region ae _ rfl ?_
     | refine aw_drawn2 tabS_ok _ rfl mixed (by decide +kernel) ?_
     | (refine aA rfl (fun hb=>?_) (fun hb=>?_)<;>(try exact (fx_ hb).elim))
     | refine aw_block ?_
     | refine aw_exit ?_
     | refine aw_ret ?_
     | refine aw_skip ?_)
    have hz:Hw a b a.length=cO (fun x y:aV=>yK x.valid y.valid) b a 0:=by unfold Hw;rw [List.take_length]
    rw [hz]
    refine ⟨.inr rfl,?_⟩
    first|exact ⟨trivial,rfl⟩|exact ⟨⟨trivial,trivial⟩,rfl⟩|(refine ⟨?_,rfl⟩;repeat' (first|exact trivial|rfl|apply And.intro))
end Go.Proofs.YtlcceppoloaecaaGreatDoor
