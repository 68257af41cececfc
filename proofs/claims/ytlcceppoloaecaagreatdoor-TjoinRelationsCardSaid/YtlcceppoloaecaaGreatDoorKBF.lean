/- Parts of the proof, joined. No condition. -/
import Derived.Test.YtlcceppoloaecaaGreatDoorKAA
import Derived.Test.YtlcceppoloaecaaGreatDoorKBC
import Derived.Test.YtlcceppoloaecaaGreatDoorKBE
import Derived.Test.YtlcceppoloaecaaGreatDoorKAF
import Derived.Test.YtlcceppoloaecaaGreatDoorKAH
import Derived.Test.YtlcceppoloaecaaGreatDoorKAK
import Derived.Test.YtlcceppoloaecaaGreatDoorKAI
import Derived.Test.YtlcceppoloaecaaGreatDoorKAP
import Derived.Lib.Bytealg
import Derived.Shelf.SlSortCmp.NoneTotal
import Derived.Shelf.SlGeneric
import Derived.Shelf.SlicesG.Cmp
import Derived.Ground.SlsfProg
import Derived.Ground.SlgcProg
import Derived.Test.YtlcceppoloaecaaGreatDoorProg
import Derived.WalkSpells
import Derived.WalkLawsBesides
import Derived.Deep.QuietTactic
import Derived.Deep.RegionHeld3
import Derived.Shelf.Spec.SlicesGrow
import Derived.Shelf.LaysM
import Derived.Shelf.Strconv.Itoa3
import Derived.Ground.NamesProg
import Derived.Lib.Walk
import Derived.Lib.ItoaMem
import Derived.WalkKit
import Derived.BigCall
import Derived.BigGuard
import Derived.Lib.AppendIntMem
set_option linter.unusedSimpArgs false
set_option linter.unusedVariables false
namespace Go.Proofs.YtlcceppoloaecaaGreatDoor.St
open Go.RowKit
def cP (p:Int × Int):List AC:=[.int .i64 p.1, .int .i64 p.2]
section
variable {P:Program} {R:PH} {w:World}
theorem Ky {α:Type} {enc:α->List Value} {ec:α->List AC} {k:Nat} (hk : ∀ x,(ec x).length=k) (hkv : ∀ x,(enc x).length=k) (hk0:0<k) (hrep : ∀ x (j:Nat) u y v,(enc x)[j]?=some u->(ec x)[j]?=some y->aJ R v y->v=u)
  (hR : ∀ b o u,R b o=some u->w.cell? ⟨b,o,none⟩=some u) {v:Value} {l:List α} (h:aJ R v (.lst (l.map ec))) : ∃ A c,v = .slice A l.length c/\Rd enc k w w.heap.size A l.length l:=by
 obtain ⟨a,c,news,rfl,hc,hcells,hreg⟩:=og (k:=k) h (by intro e he;simp only [VK] at he;obtain ⟨x,_,rfl⟩:=he;exact hk x)
 refine ⟨a,c,by simp,rfl,fun hp=>?_⟩
 obtain ⟨b,o,rfl,hb⟩:=hreg (by simpa using hp)
 have key : ∀ (i:Nat) x,l[i]?=some x -> ∀ (j:Nat) u,(enc x)[j]?=some u->w.cell? ⟨b,o+(i*k+j),none⟩=some u:=by
  intro i x hx j u hu
  have he:(l.map ec)[i]?=some (ec x):=by rw [Vz,hx];rfl
  have hj:j<(ec x).length:=by rw [hk, <- hkv x];exact (Vb.1 hu).1
  obtain ⟨u0,h0,p0⟩:=hcells.get i _ j _ he (Vl hj)
  rw [hrep x j u _ u0 hu (Vl hj) p0] at h0
  exact hR _ _ _ (hb _ _ h0)
 refine ⟨b,o,rfl,?_,fun i x hx j u hu=>?_⟩
 ·obtain ⟨x,hx⟩:=gol_ hp
  obtain ⟨u,hu⟩:=gol_ (show 0<(enc x).length by rw [hkv];exact hk0)
  exact lt_of_cell (key 0 x hx 0 u hu)
 ·rw [Nat.add_assoc];exact key i x hx j u hu
def pu (R:PH) (w w':World):OU:=fun b o=>if b<w.heap.size then R b o else w'.cell? ⟨b,o,none⟩
theorem zA (hR : ∀ b o u,R b o=some u->w.cell? ⟨b,o,none⟩=some u) (w':World) : ∀ b o u,R b o=some u->pu R w w' b o=some u:=fun b o u h=>by
 have:=lt_of_cell (hR b o u h)
 unfold pu;rw [if_pos this];exact h
def JF (R:PH) (w w':World) (hR : ∀ b o u,R b o=some u->w.cell? ⟨b,o,none⟩=some u):PH:=R.put (pu R w w') (zA hR w')
theorem eQ (hR : ∀ b o u,R b o=some u->w.cell? ⟨b,o,none⟩=some u) {w':World} (hg:Gr w w'):Ext (· < w.heap.size) R (JF R w w' hR) w w' /\ ∀ b o u,JF R w w' hR b o=some u->w'.cell? ⟨b,o,none⟩=some u:=by
 refine ⟨⟨Kept.of hg.out,zA hR w',fun b o hb=>?_⟩,fun b o u h=>?_⟩
 ·show pu R w w' b o=_
  unfold pu;rw [if_pos hb]
 ·have h:pu R w w' b o=some u:=h
  unfold pu at h
  split at h
  ·rename_i hb;rw [hg.cells.1 b o hb];exact hR _ _ _ h
  ·exact h
theorem rZ (hR : ∀ b o u,R b o=some u->w.cell? ⟨b,o,none⟩=some u) {w':World} {E:TypeId} {v:Value} {l:List (Int × Int)} (ho:Own e2 2 E w' w.heap.size v l):aJ (JF R w w' hR) v (.lst (l.map cP)):=by
 obtain ⟨A,c,rfl⟩:=ho.form
 have hrd:=ho.rds bN
 have hlt:=World.ownsRow.lt ho
 have hc:l.length<=c:=by
  rcases ho.2 with ⟨hv,hn⟩|⟨g,cap,cur,hv,_,_,hle,_⟩
  ·omega
  ·injection hv with _ _ h3;omega
 by_cases hz:l.length=0
 ·have:l=[]:=VC hz
  subst this
  exact bS _ _ _
 ·obtain ⟨b,o,rfl,hb,hcell⟩:=hrd.2 (by omega)
  have hge:w.heap.size<=b:=(hlt b rfl).1
  have key : ∀ (i:Nat) x,l[i]?=some x->JF R w w' hR b (o+(i*2+0))=some (.int .i64 x.1)/\JF R w w' hR b (o+(i*2+1))=some (.int .i64 x.2):=by
   intro i x hx
   show pu R w w' b _=_/\pu R w w' b _=_
   unfold pu
   rw [if_neg (by omega),if_neg (by omega), <- Nat.add_assoc, <- Nat.add_assoc]
   exact ⟨hcell i x hx 0 _ rfl,hcell i x hx 1 _ rfl⟩
  refine .lst _ _ _ _ 2 (fun j=>(JF R w w' hR b (o+j)).getD Go.undef) b o (by simp) hc (by intro e he;simp only [VK] at he;obtain ⟨x,_,rfl⟩:=he;rfl) (fun _=>rfl) (fun j hj=>?_) (fun i e j y he hy=>?_)
  ·have hi:j/2<l.length:=by omega
   have hx:l[j/2]?=some l[j/2]:=Vl hi
   have:=key _ _ hx
   have hm:j=j/2*2+j%2:=by omega
   rcases Nat.mod_two_eq_zero_or_one j with h0|h0
   ·rw [h0] at hm;rw [hm,this.1];rfl
   ·rw [h0] at hm;rw [hm,this.2];rfl
  ·rw [Vz] at he
   cases hx:l[i]? with
   | none=>simp [hx] at he
   | some x =>
    rw [hx] at he;simp only [Option.map_some,Option.some.injEq] at he;subst he
    have:=key i x hx
    match j,hy with
    | 0,hy=>simp [cP] at hy;subst hy;rw [this.1];exact .int _ _
    | 1,hy=>simp [cP] at hy;subst hy;rw [this.2];exact .int _ _
    | j+2,hy=>simp [cP] at hy
theorem rU {v:Value} {k:IntKind} {n:Int} (h:aJ R v (.int k n)):v = .int k n:=by cases h;rfl
theorem O0 (hR : ∀ b o u,R b o=some u->w.cell? ⟨b,o,none⟩=some u) {v:Value} {l:List (Int × Int)} (h:aJ R v (.lst (l.map cP))) : ∃ A c,v = .slice A l.length c/\Rd e2 2 w w.heap.size A l.length l :=
 Ky (k:=2) (fun _=>rfl) bN (by decide) (fun x j u y v hu hy hv=>by
  match j,hu,hy with
  | 0,hu,hy=>simp [e2] at hu;simp [cP] at hy;subst hu hy;exact rU hv
  | 1,hu,hy=>simp [e2] at hu;simp [cP] at hy;subst hu hy;exact rU hv
  | j+2,hu,hy=>simp [cP] at hy) hR h
end
theorem vJ {vs:Array Value} {p:PV} (h:vs.size=[p].length) : ∃ v,vs = #[v]:=by
 obtain ⟨l⟩:=vs
 match l,h with
 | [a],_=>exact ⟨a,rfl⟩
theorem KY (l:List (Int × Int)) (hn:l.length<=1000) (hasc:Asc l) (hF : ∀ s∈l,s.1<1099511627776) (hM : ∀ s∈l,s.2<=600):Pure Tryz.prog 147 [.one (.lst (l.map cP))] (.val (.one (.lst ((BN l).map cP)))):=by
 refine ⟨⟨_,Tryz.func147,by kernel_rfl,by kernel_rfl⟩,fun R w vs hR hs hv=>?_⟩
 obtain ⟨v,rfl⟩:=vJ hs
 obtain ⟨A,c,rfl,ha⟩:=O0 hR (hv 0 v _ rfl rfl)
 refine (JY A _ c l w ha hn hasc hF hM).mono ?_
 rintro e w' ⟨A',m',c',rfl,ho,hg⟩
 exact ⟨_,_,rfl,(eQ hR hg).1,(eQ hR hg).2,rZ hR ho⟩
end Go.Proofs.YtlcceppoloaecaaGreatDoor.St
namespace Go.Proofs.YtlcceppoloaecaaGreatDoor
def U2 (x:Int × Int):bD:=⟨x.1,x.2⟩
def toS (s:Stp):Int × Int:=(s.lo,s.n)
def Ke (l:List Stp):List bD:=(St.BN (l.map toS)).map U2
theorem Gc (l:List Stp):(l.map toS).map St.cP=l.map xQ:=by rw [List.map_map];rfl
theorem H5 (l:List (Int × Int)):(l.map U2).map gm=l.map St.cP:=by rw [List.map_map];rfl
structure Kq (l:List Stp):Prop where
 len:l.length<=1000
 asc:St.Asc (l.map toS)
 fin : ∀ s∈l,s.lo<1099511627776
 low : ∀ s∈l,s.n<=600
theorem Kt (l:List Stp) (h:Kq l):Pure Tryz.prog 147 [.one (.lst (l.map xQ))] (.val (.one (.lst ((Ke l).map gm)))):=by
 have:=St.KY (l.map toS) (by simpa using h.len) h.asc (by intro s hs;obtain ⟨x,hx,rfl⟩:=VK.1 hs;exact h.fin x hx) (by intro s hs;obtain ⟨x,hx,rfl⟩:=VK.1 hs;exact h.low x hx)
 rw [Gc] at this
 unfold Ke;rw [H5];exact this
open Go.RowKit Go.MapKept
set_option maxRecDepth 100000
set_option maxHeartbeats 8000000
set_option maxHeartbeats 8000000
set_option maxHeartbeats 8000000
set_option maxHeartbeats 8000000
set_option maxHeartbeats 8000000
set_option maxHeartbeats 8000000
set_option maxHeartbeats 8000000
structure uV {α:Type} (c:α->α->Int):Prop where
 refl : ∀ a,c a a=0
 zero : ∀ a b,c a b=0->a=b
 anti : ∀ a b,c a b<0↔0<c b a
 trans : ∀ a b d,c a b<0->c b d<0->c a d<0
theorem tCi_:uV fC:=by
 refine ⟨fun a=>by simp [fC],fun a b h=>?_,fun a b=>?_,fun a b d h1 h2=>?_⟩
 ·unfold fC at h;split at h
  ·omega
  ·split at h<;>omega
 ·unfold fC;split<;>split<;>(try split)<;>omega
 ·unfold fC at *
  split at h1
  ·split at h2
   ·rw [if_pos (by omega)];omega
   ·split at h2<;>omega
  ·split at h1<;>omega
def jv {α:Type} (c:α->α->Int):List α->List α->Int
 | [],[]=>0
 | [],_::_ => -1
 | _::_,[]=>1
 | a::xs,b::ys=>if c a b≠0 then c a b else jv c xs ys
theorem Ef {α:Type} {c:α->α->Int} (h:uV c):uV (jv c):=by
 refine ⟨?_,?_,?_,?_⟩
 ·intro a
  induction a with
  | nil=>rfl
  | cons x a ih=>simp [jv,h.refl x,ih]
 ·intro a
  induction a with
  | nil=>intro b hb;cases b with
   | nil=>rfl
   | cons _ _=>simp [jv] at hb
  | cons x a ih =>
   intro b hb
   cases b with
   | nil=>simp [jv] at hb
   | cons y b =>
    unfold jv at hb
    split at hb
    ·rename_i h0;exact absurd hb h0
    ·rename_i h0
     have:=h.zero x y (by simpa using h0)
     subst this
     rw [ih b hb]
 ·intro a
  induction a with
  | nil=>intro b;cases b with
   | nil=>simp [jv]
   | cons _ _=>simp [jv]
  | cons x a ih =>
   intro b
   cases b with
   | nil=>simp [jv]
   | cons y b =>
    unfold jv
    by_cases h0:c x y=0
    ·have:=h.zero x y h0
     subst this
     simp only [h.refl,ne_eq,not_true_eq_false,if_false]
     exact ih b
    ·have h1:c y x≠0:=fun e=>h0 (by rw [h.zero y x e];exact h.refl x)
     rw [if_pos h0,if_pos h1]
     exact h.anti x y
 ·intro a
  induction a with
  | nil =>
   intro b d h1 h2
   cases b with
   | nil=>simp [jv] at h1
   | cons y b=>cases d with
    | nil=>simp [jv] at h2
    | cons _ _=>simp [jv]
  | cons x a ih =>
   intro b d h1 h2
   cases b with
   | nil=>simp [jv] at h1
   | cons y b =>
    cases d with
    | nil=>simp [jv] at h2
    | cons z d =>
     unfold jv at h1 h2 ⊢
     by_cases e1:c x y=0
     ·have:=h.zero x y e1
      subst this
      rw [if_neg (by simpa using e1)] at h1
      by_cases e2:c x z=0
      ·rw [if_neg (by simpa using e2)] at h2 ⊢
       exact ih b d h1 h2
      ·rw [if_pos e2] at h2 ⊢
       exact h2
     ·rw [if_pos e1] at h1
      by_cases e2:c y z=0
      ·have:=h.zero y z e2
       subst this
       rw [if_pos e1];exact h1
      ·rw [if_pos e2] at h2
       have:=h.trans x y z h1 h2
       rw [if_pos (by omega)];exact this
theorem kz : ∀ a b:List Val,bX a b=jv ny a b
 | [],[]=>rfl
 | [],_::_=>rfl
 | _::_,[]=>rfl
 | a::xs,b::ys=>by rw [bX,jv,kz xs ys]
def uU (x y:UInt8):Int:=if x<y then -1 else if y<x then 1 else 0
theorem Iz:uV uU:=by
 have key : ∀ x y:UInt8,uU x y=fC ((x.toNat:Nat):Int) ((y.toNat:Nat):Int):=by
  intro x y
  unfold uU fC
  simp only [UInt8.lt_iff_toNat_lt,Int.ofNat_lt]
 refine ⟨fun a=>by rw [key];exact tCi_.refl _,fun a b h=>?_,fun a b=>by rw [key,key];exact tCi_.anti _ _,fun a b d h1 h2=>by rw [key] at *;exact tCi_.trans _ _ _ h1 h2⟩
 rw [key] at h
 have:=tCi_.zero _ _ h
 exact UInt8.toNat_inj.1 (by omega)
theorem uH : ∀ a b:List UInt8,Lib.compareBytes a b=jv uU a b
 | [],[]=>rfl
 | [],_::_=>rfl
 | _::_,[]=>rfl
 | x::a,y::b=>by
  have e:jv uU (x::a) (y::b)=if uU x y≠0 then uU x y else jv uU a b:=rfl
  rw [e, <- uH a b]
  have e2:Lib.compareBytes (x::a) (y::b)=if x<y then -1 else if y<x then 1 else Lib.compareBytes a b:=by rw [Lib.compareBytes]
  rw [e2]
  by_cases h1:x<y
  ·simp [h1,uU]
  ·by_cases h2:y<x
   ·simp [h1,h2,uU]
   ·simp [h1,h2,uU]
theorem oM:uV mK:=by
 have key : ∀ a b:ByteArray,mK a b=jv uU a.data.toList b.data.toList:=by
  intro a b
  unfold mK
  rw [Lib.cmp_eq,uH]
 have t:=Ef Iz
 refine ⟨fun a=>by rw [key];exact t.refl _,fun a b h=>?_,fun a b=>by rw [key,key];exact t.anti _ _,fun a b d h1 h2=>by rw [key] at *;exact t.trans _ _ _ h1 h2⟩
 rw [key] at h
 have:=t.zero _ _ h
 obtain ⟨⟨a⟩⟩:=a
 obtain ⟨⟨b⟩⟩:=b
 simp at this
 rw [this]
theorem Il:uV ny:=by
 refine ⟨?_,?_,?_,?_⟩
 ·intro a;simp [ny,tCi_.refl,oM.refl]
 ·intro a b h
  obtain ⟨k,n,t⟩:=a
  obtain ⟨k',n',t'⟩:=b
  unfold ny at h
  dsimp only at h
  split at h
  ·rename_i e;exact absurd h e
  ·rename_i e1
   split at h
   ·rename_i e;exact absurd h e
   ·rename_i e2
    have k1:=tCi_.zero _ _ (show fC k k'=0 by simpa using e1)
    have k2:=tCi_.zero _ _ (show fC n n'=0 by simpa using e2)
    have k3:=oM.zero _ _ h
    subst k1 k2 k3;rfl
 ·intro a b
  unfold ny
  by_cases e1:fC a.kind b.kind=0
  ·have k:=tCi_.zero _ _ e1
   rw [k]
   simp only [tCi_.refl,ne_eq,not_true_eq_false,if_false]
   by_cases e2:fC a.int b.int=0
   ·have k2:=tCi_.zero _ _ e2
    rw [k2]
    simp only [tCi_.refl,ne_eq,not_true_eq_false,if_false]
    exact oM.anti _ _
   ·have e2':fC b.int a.int≠0:=fun e=>e2 (by rw [tCi_.zero _ _ e];exact tCi_.refl _)
    rw [if_pos e2,if_pos e2']
    exact tCi_.anti _ _
  ·have e1':fC b.kind a.kind≠0:=fun e=>e1 (by rw [tCi_.zero _ _ e];exact tCi_.refl _)
   rw [if_pos e1,if_pos e1']
   exact tCi_.anti _ _
 ·intro a b d h1 h2
  unfold ny at *
  by_cases e1:fC a.kind b.kind=0
  ·have k:=tCi_.zero _ _ e1
   rw [k] at h1 ⊢
   simp only [tCi_.refl,ne_eq,not_true_eq_false,if_false] at h1
   by_cases f1:fC b.kind d.kind=0
   ·rw [if_neg (by simpa using f1)] at h2 ⊢
    by_cases e2:fC a.int b.int=0
    ·have k2:=tCi_.zero _ _ e2
     rw [k2] at h1 ⊢
     simp only [tCi_.refl,ne_eq,not_true_eq_false,if_false] at h1
     by_cases f2:fC b.int d.int=0
     ·rw [if_neg (by simpa using f2)] at h2 ⊢
      exact oM.trans _ _ _ h1 h2
     ·rw [if_pos f2] at h2 ⊢;exact h2
    ·rw [if_pos e2] at h1
     by_cases f2:fC b.int d.int=0
     ·have k2:=tCi_.zero _ _ f2
      rw [<- k2,if_pos e2];exact h1
     ·rw [if_pos f2] at h2
      have:=tCi_.trans _ _ _ h1 h2
      rw [if_pos (by omega)];exact this
   ·rw [if_pos f1] at h2 ⊢;exact h2
  ·rw [if_pos e1] at h1
   by_cases f1:fC b.kind d.kind=0
   ·have k:=tCi_.zero _ _ f1
    rw [<- k,if_pos e1];exact h1
   ·rw [if_pos f1] at h2
    have:=tCi_.trans _ _ _ h1 h2
    rw [if_pos (by omega)];exact this
theorem tCr_:uV bX:=by
 have t:=Ef Il
 exact ⟨fun a=>by rw [kz];exact t.refl _,fun a b h=>t.zero _ _ (by rw [<- kz];exact h),fun a b=>by rw [kz,kz];exact t.anti _ _,fun a b d h1 h2=>by rw [kz] at *;exact t.trans _ _ _ h1 h2⟩
section
variable {α:Type} {c:α->α->Int}
def Asc (c:α->α->Int) (l:List α):Prop:=l.Pairwise fun a b=>c a b<=0
theorem uV.le_trans (h:uV c) {a b d:α} (h1:c a b<=0) (h2:c b d<=0):c a d<=0:=by
 by_cases e1:c a b=0
 ·rw [h.zero a b e1];exact h2
 ·by_cases e2:c b d=0
  ·rw [<- h.zero b d e2];exact h1
  ·have:=h.trans a b d (by omega) (by omega);omega
theorem uV.total (h:uV c) (a b:α):c a b<=0\/c b a<=0:=by
 by_cases e:c a b<=0
 ·exact .inl e
 ·have:=(h.anti b a).2 (by omega);exact .inr (by omega)
end
def push {α β ρ:Type} (g:α->β) (N:Nat) (s:List β) (x:α):Option (Sum (List β) ρ):=bif decide (s.length+1<=N) then some (.inl (s++[g x])) else none
instance decRow (a b : List Val) : Decidable (a = b) := if h : bX a b = 0 then .isTrue (tCr_.zero _ _ h) else .isFalse fun e => h (by rw [e]; exact tCr_.refl _)
theorem x9 (p:bD):dM p=some (ay p):=by
 unfold dM ay
 cases h1:decide (0<=p.lo)<;>cases h2:decide (p.lo<p.hi)<;>cases h3:decide (p.hi<=1099511627776)<;>simp_all
def T3 (t:Int):Prop:=t=0\/t=1\/t=2
open Go.RowKit
open Go.RowKit Go.Shelf Go.Lib Go.Sort
set_option linter.unusedSectionVars false
structure Flat (α:Type) where
 k:Nat
 nums:α->List Int
 len : ∀ x,(nums x).length=k
 pos:0<k
namespace Flat
variable {α:Type} (F:Flat α)
def enc (x:α):List Value:=(F.nums x).map (Value.int .i64)
def tr (x:α):List SV:=(F.nums x).map fun n => .c (.int .i64 n)
theorem enc_len (x:α):(F.enc x).length=F.k:=by simp [enc,F.len]
theorem tr_len (x:α):(F.tr x).length=F.k:=by simp [tr,F.len]
theorem rep_iff {R:PH} {γ:List Gh} {L:List Ob} {x:α} {j:Nat} {t:SV} (ht:(F.tr x)[j]?=some t) {u:Value} : t.rep R γ L u↔(F.enc x)[j]?=some u:=by
 unfold tr at ht
 unfold enc
 rw [Vz] at ht ⊢
 cases hn:(F.nums x)[j]? with
 | none=>rw [hn] at ht;cases ht
 | some n =>
  rw [hn] at ht
  cases ht
  constructor
  ·intro h;cases h;rfl
  ·intro h;cases h;exact .int _ _
theorem flat_get {l:List α} {i j:Nat} {x:α} (hi:l[i]?=some x) (hj:j<F.k):(l.flatMap F.enc)[i*F.k+j]?=(F.enc x)[j]?:=by
 induction l generalizing i with
 | nil=>cases hi
 | cons y l ih =>
  rw [VM]
  cases i with
  | zero =>
   cases hi
   rw [Nat.zero_mul,VQ,Vq (by rw [F.enc_len];exact hj)]
  | succ i =>
   rw [Vj (by rw [F.enc_len,Nat.succ_mul];omega),F.enc_len,show (i+1)*F.k+j-F.k=i*F.k+j by rw [Nat.succ_mul];omega]
   exact ih hi
theorem flat_len (l:List α):(l.flatMap F.enc).length=l.length*F.k:=by
 induction l with
 | nil=>simp
 | cons y l ih=>rw [VM,Vk,ih,F.enc_len,Vy,Nat.succ_mul];omega
end Flat
section
variable {P:Program} {α:Type} {F:Flat α} {B:Nat->Prop} {R:PH} {γ:List Gh} {w:World}
theorem wF {k c ver:Nat} {l:List α} {vs:Array Value} (hk:k=F.k) (hc:l.length<=c) (hs:vs.size=c*k)
  (hr : ∀ (i:Nat) e (j:Nat) u x,(l.map F.tr)[i]?=some e->vs[i*k+j]?=some u->e[j]?=some x->x.rep R γ [.row ver (l.map F.tr) k] u) (j:Nat) (hj:j<l.length*k):vs[j]?=(l.flatMap F.enc)[j]?:=by
 subst hk
 have h0:=F.pos
 have hi:j/F.k<l.length:=Nat.div_lt_of_lt_mul (by rw [Nat.mul_comm];exact hj)
 have hm:j%F.k<F.k:=Nat.mod_lt _ h0
 have e:=Nat.div_add_mod' j F.k
 have hjs:j<vs.size:=by rw [hs];exact VN hj (VL _ hc)
 have h1:=Vl hi
 have ht:(F.tr l[j/F.k])[j%F.k]?=some ((F.tr l[j/F.k])[j%F.k]'(by rw [F.tr_len];exact hm)):=Vl _
 have h2:=hr (j/F.k) (F.tr l[j/F.k]) (j%F.k) vs[j] _ (by rw [Vz,h1];rfl) (by rw [e];exact VB hjs) ht
 rw [F.rep_iff ht] at h2
 have h3:=F.flat_get h1 hm
 rw [e] at h3
 rw [h3,h2,VB hjs]
theorem JX {ver k b c:Nat} {pre d post d':List α} (hk:k=F.k) (hd:d'.length=d.length) {W:World} (hi:Inv B R γ [.row ver ((pre++d++post).map F.tr) k] w) (hg:γ[0]?=some (.arr b c))
  (ho:W.heap.size=w.heap.size) (hos:W.os=w.os/\W.tape=w.tape/\W.output=w.output) (hne : ∀ b',b'≠b->W.heap[b']?=w.heap[b']?)
  (hb : ∀ vs E,w.heap[b]?=some (.cells vs E (0,0)) -> ∃ vs':Array Value,W.heap[b]?=some (.cells vs' E (0,0))/\vs'.size=vs.size /\ ∀ j,j<vs.size->vs'[j]?=if pre.length*k<=j/\j<(pre.length+d.length)*k then (d'.flatMap F.enc)[j-pre.length*k]? else vs[j]?) :
  Inv B R γ [.row ver ((pre++d'++post).map F.tr) k] W/\Ext B R R w W/\Mv R R γ γ [.row ver ((pre++d++post).map F.tr) k] [.row ver ((pre++d'++post).map F.tr) k]:=by
 subst hk
 have hL:([.row ver ((pre++d++post).map F.tr) F.k]:List Ob)[0]?=some (.row ver ((pre++d++post).map F.tr) F.k):=rfl
 obtain ⟨⟨vs,E,⟨h1,hE⟩,hsz,hr⟩,hc,hk0,hel,hR⟩:=hi.obj 0 _ _ hL hg
 obtain ⟨vs',g1,g2,g3⟩:=hb vs E h1
 have hcell:=wF (F:=F) rfl (by simpa using hc) hsz hr
 have hm:Mv R R γ γ [.row ver ((pre++d++post).map F.tr) F.k] (([.row ver ((pre++d++post).map F.tr) F.k]:List Ob).set 0 (.row ver ((pre++d'++post).map F.tr) F.k)):=by
  refine ⟨PH.sub_refl _,Vs _,fun t' n k hlt h=>?_,fun t' ver' es k hlt h=>?_,fun _ _ h=>h⟩
  ·obtain rfl:t'=0:=by simpa using hlt
   cases h
  ·obtain rfl:t'=0:=by simpa using hlt
   cases h
   exact ⟨ver,_,rfl,Vs _,fun _=>⟨by simp [hd],rfl⟩⟩
 have hi':=hi.turn (R':=R) (w':=W) hL hg rfl hm hne ho (fun _ _ _=>rfl) (fun o u e=>by rw [hR o] at e;cases e) (by
  refine ⟨⟨vs',E,⟨g1,hE⟩,by rw [g2,hsz],fun i e j u x he hu hx=>?_⟩,by simpa [hd] using hc,hk0,?_,hR⟩
  ·rw [Vz] at he
   cases hq:(pre++d'++post)[i]? with
   | none=>rw [hq] at he;cases he
   | some y =>
    rw [hq] at he
    cases he
    rw [F.rep_iff hx]
    have hj:j<F.k:=by rw [<- F.tr_len y];exact (Vb.1 hx).1
    have hlt:i*F.k+j<vs'.size:=(VS.1 hu).1
    rw [g3 _ (by omega)] at hu
    have hil:i<(pre++d'++post).length:=(Vb.1 hq).1
    have hbig : ∀ a,i*F.k+j<a*F.k↔i<a:=fun a=>⟨fun h=>by
      rcases Nat.lt_or_ge i a with h'|h'
      ·exact h'
      ·have:=VL F.k h';omega,fun h=>by
      have:=VL F.k (show i+1<=a from h)
      rw [Nat.succ_mul] at this;omega⟩
    by_cases hin:pre.length*F.k<=i*F.k+j/\i*F.k+j<(pre.length+d.length)*F.k
    ·rw [if_pos hin] at hu
     have a1 : ¬ i<pre.length:=fun h=>by have:=(hbig _).2 h;omega
     have a2:=(hbig _).1 hin.2
     have hq':d'[i-pre.length]?=some y:=by
      rw [VD,Vj (by omega),Vq (by omega)] at hq
      exact hq
     have:=F.flat_get hq' hj
     rw [<- this, <- hu]
     congr 1
     rw [Nat.sub_mul]
     have:=VL F.k (show pre.length<=i by omega)
     omega
    ·rw [if_neg hin] at hu
     have hq':(pre++d++post)[i]?=some y:=by
      by_cases a1:i<pre.length
      ·rw [VD,Vq a1] at hq ⊢;exact hq
      ·have a2 : ¬ i<pre.length+d.length:=fun h=>hin ⟨by have:=VL F.k (show pre.length<=i by omega);omega,(hbig _).2 h⟩
       rw [Vj (by simp [hd];omega)] at hq
       rw [Vj (by simp;omega), <- hq]
       simp [hd]
     have hil':i<(pre++d++post).length:=(Vb.1 hq').1
     rw [hcell _ ((hbig _).2 hil'),F.flat_get hq' hj] at hu
     exact hu
  ·intro e he
   obtain ⟨y,_,rfl⟩:=VK.1 he
   exact F.tr_len y)
 refine ⟨hi',⟨⟨hos.1,hos.2.1,hos.2.2,by omega,fun b' hb'=>hne b' fun e=>(hi.new 0 _ b hg rfl).1 (by rw [<- e];exact hb')⟩,PH.sub_refl _,fun _ _ _=>rfl⟩,hm⟩
end
section
variable {P:Program} {ρ:Ren} {α:Type} [Inhabited α] {F:Flat α}
theorem wL (l:List α) (j:Nat) (hj:j<l.length*F.k):(flatK F.enc F.k l.toArray)[j]?=(l.flatMap F.enc)[j]?:=by
 have hk0:=F.pos
 have hi:j/F.k<l.length:=Nat.div_lt_of_lt_mul (by rw [Nat.mul_comm];exact hj)
 have hr:j%F.k<F.k:=Nat.mod_lt _ hk0
 have h1:=F.flat_get (Vl hi) hr
 rw [Nat.div_add_mod' j F.k] at h1
 rw [h1]
 have hs:j<(flatK F.enc F.k l.toArray).size:=by simp;exact hj
 rw [VB hs, <- getElem!_pos _ j hs,get_flatK _ _ _ _ (by simpa using hj)]
 have h2:l.toArray[j/F.k]! = l[j/F.k]:=by simp [hi]
 rw [h2,Vl (by rw [F.enc_len];exact hr)]
 simp [F.enc_len,hr]
def G5 (P:Program) (F:Flat α) (g:Nat) (cs:List AC) (arg:α->Value) (cf:α->α->Int):Prop :=
 ∀ (R:PH) (W:World) (cb:Array Value),(∀ b o u,R b o=some u->W.cell? ⟨b,o,none⟩=some u)->cb.size=cs.length->(∀ (j:Nat) v x,cb[j]?=some v->cs[j]?=some x->aJ R v x) ->
  ∀ x y,Calls P g (#[arg x,arg y]++cb) W fun e w'=>e = .returned (.int .i64 (cf x y)) /\ ∃ q os',w'=grow (W.drewN q) os'
def aM (cf:α->α->Int) (d:List α):List α:=(pdq (ltOf cf) d.toArray 0 d.toArray.size (Lib.bitLen d.toArray.size) true true).toList
theorem mh {cf:α->α->Int} (hO:SWO (ltOf cf)) (d:List α):(aM cf d).Perm d:=by
 have h:=(pdq_sorts (ltOf cf) hO d.toArray 0 d.toArray.size (Lib.bitLen d.toArray.size) true true (Vx _) (Vs _) (Or.inl rfl)).1
 obtain ⟨p1,_,p2⟩:=h
 unfold aM
 generalize pdq (ltOf cf) d.toArray 0 d.toArray.size (Lib.bitLen d.toArray.size) true true=d' at p1 p2 ⊢
 have p1':d'.toList.length=d.length:=by simpa using p1
 have a1:(d'.extract 0 d.toArray.size).toList=d'.toList:=by simp [<- p1']
 have a2:(d.toArray.extract 0 d.toArray.size).toList=d:=by simp
 rw [a1,a2] at p2
 exact p2
theorem dU {cf:α->α->Int} (hO:SWO (ltOf cf)) (d:List α):(aM cf d).length=d.length:=(mh hO d).length_eq
theorem uE {cf:α->α->Int} (hO:SWO (ltOf cf)) (d:List α):(aM cf d).Pairwise fun x y => ¬ cf y x<0:=by
 have h:=(pdq_sorts (ltOf cf) hO d.toArray 0 d.toArray.size (Lib.bitLen d.toArray.size) true true (Vx _) (Vs _) (Or.inl rfl))
 have hl:=dU hO d
 obtain ⟨_,hs⟩:=h
 unfold aM at hl ⊢
 generalize pdq (ltOf cf) d.toArray 0 d.toArray.size (Lib.bitLen d.toArray.size) true true=d' at hs hl ⊢
 rw [List.pairwise_iff_getElem]
 intro i j hi hj hij
 have:=hs i j (Vx _) hij (by rw [hl] at hj;simpa using hj)
 unfold ltOf at this
 have h2:=of_decide_eq_false this
 have hi':i<d'.size:=by simpa using hi
 have hj':j<d'.size:=by simpa using hj
 rw [getElem!_pos d' i hi',getElem!_pos d' j hj'] at h2
 simpa using h2
theorem Ed {B:Nat->Prop} {R:PH} {γ:List Gh} {w:World} {ver b c n0:Nat} {pre d post d':List α} (hd:d'.length=d.length) (hi:Inv B R γ [.row ver ((pre++d++post).map F.tr) F.k] w) (hg:γ[0]?=some (.arr b c)) (cells:Array Value) (hcs:cells.size=d.length*F.k)
  (hce : ∀ j,j<d.length*F.k->cells[j]?=(d'.flatMap F.enc)[j]?) (os:Array Obj) :
  Inv B R γ [.row ver ((pre++d'++post).map F.tr) F.k] (grow (putRow id (Sort.ahead w n0) b (pre.length*F.k) cells) os)/\Ext B R R w (grow (putRow id (Sort.ahead w n0) b (pre.length*F.k) cells) os) /\
   Mv R R γ γ [.row ver ((pre++d++post).map F.tr) F.k] [.row ver ((pre++d'++post).map F.tr) F.k]:=by
 obtain ⟨i1,e1,m1⟩:=JX (F:=F) (d':=d') (W:=putRow id (Sort.ahead w n0) b (pre.length*F.k) cells) rfl hd hi hg (by simp [putRow,mapBlock,Sort.ahead]) ⟨rfl,rfl,rfl⟩
  (fun b' hb'=>by simp [putRow,mapBlock,Sort.ahead,Array.getElem?_modify,Ne.symm hb'])
  (fun vs E hv=>⟨putCells id (pre.length*F.k) cells vs,by simp [putRow,mapBlock,Sort.ahead,Array.getElem?_modify,hv,onCells],by simp [putCells],fun j hj=>by
   have hx:(putCells id (pre.length*F.k) cells vs)[j]?=some (if pre.length*F.k<=j/\j<pre.length*F.k+cells.size then cells[j-pre.length*F.k]! else vs[j]):=by
    simp [putCells,hj]
   rw [hx,hcs,Nat.add_mul]
   by_cases h:pre.length*F.k<=j/\j<pre.length*F.k+d.length*F.k
   ·rw [if_pos h,if_pos h, <- hce _ (by omega)]
    have:j-pre.length*F.k<cells.size:=by omega
    rw [getElem!_pos cells _ this,VB this]
   ·rw [if_neg h,if_neg h,VB hj]⟩)
 have e2:Ext (· < (putRow id (Sort.ahead w n0) b (pre.length*F.k) cells).heap.size) R R (putRow id (Sort.ahead w n0) b (pre.length*F.k) cells) (grow (putRow id (Sort.ahead w n0) b (pre.length*F.k) cells) os) :=
  ⟨⟨rfl,rfl,rfl,by simp,fun b' hb'=>heap_grow_old _ _ hb'⟩,PH.sub_refl _,fun _ _ _=>rfl⟩
 obtain ⟨i2,e3⟩:=i1.later e2 (fun b' o u h=>by
  have:=i1.val b' o u h
  rw [cell?_grow _ _ _ (lt_of_cell this)];exact this)
 exact ⟨i2,e1.trans e3,m1⟩
theorem Kw {B:Nat->Prop} {R:PH} {γ:List Gh} {w:World} {ver b c:Nat} {pre d post:List α} (hi:Inv B R γ [.row ver ((pre++d++post).map F.tr) F.k] w) (hg:γ[0]?=some (.arr b c)) (cells:Array Value) (hcs:cells.size=d.length*F.k)
  (hce : ∀ j,j<d.length*F.k->cells[j]?=(d.flatMap F.enc)[j]?):Holds id w b (pre.length*F.k) cells/\b<w.heap.size/\(∀ o,R b o=none):=by
 obtain ⟨⟨vs,E,⟨h1,hE⟩,hsz,hr⟩,hc,hk0,hel,hR⟩:=hi.obj 0 _ _ rfl hg
 have hcell:=wF (F:=F) rfl (by simpa using hc) hsz hr
 refine ⟨fun j hj=>?_,(VS.1 h1).1,hR⟩
 have hlt:pre.length*F.k+j<(pre++d++post).length*F.k:=by
  simp only [Vk,Nat.add_mul];omega
 refine ⟨?_,by simp [World.frozen?,h1]⟩
 rw [cob_ h1,hcell _ hlt,VD,List.flatMap_append,Vj (by rw [F.flat_len];omega),F.flat_len,List.flatMap_append,Vq (by rw [F.flat_len];omega),show pre.length*F.k+j-pre.length*F.k=j by omega, <- hce j (by omega),VB hj,getElem!_pos cells j hj]
 rfl
theorem OP {B:Nat->Prop} {R:PH} {γ:List Gh} {w:World} {ver:Nat} {pre d post:List α} {v:Value} (hi:Inv B R γ [.row ver ((pre++d++post).map F.tr) F.k] w)
  (hv:(SV.sl 0 ver pre.length d.length).rep R γ [.row ver ((pre++d++post).map F.tr) F.k] v) :
  (∃ a c,v = .slice a 0 c/\d=[]) \/ ∃ b c c',γ[0]?=some (.arr b c)/\v = .slice (some ⟨b,pre.length*F.k,none⟩) d.length c':=by
 obtain ⟨_,_,h⟩:=hv
 obtain ⟨_,h⟩:=h ver _ _ rfl
 obtain ⟨hle,g,hg,hs⟩:=h rfl
 cases g with
 | none=>obtain ⟨⟨a,rfl,_⟩,hn,_⟩:=hs;exact .inl ⟨a,0,rfl,VC hn⟩
 | box b=>exact absurd hs id
 | arr b c =>
  rcases hs with rfl|⟨_,hn,a,rfl⟩
  ·exact .inr ⟨b,c,_,hg,rfl⟩
  ·exact .inl ⟨a,0,rfl,VC hn⟩
theorem JJ (L:SlLaysF0.n6 P ρ) (aE : ∀ w,(isAgg (ρ.t 24)).run P w = .ok true w) (zE : ∀ w,(Go.sizeOf (ρ.t 24)).run P w = .ok F.k w) (cf:α->α->Int) (hO:SWO (ltOf cf)) (g:Nat) (cs:List AC) {pre d post:List α}
  (eg : ∀ args w, (callFunc g args).run P w = .ok (.enter g args) w) (hcmp : d ≠ [] -> G5 P F g cs (fun x => .agg (F.enc x).toArray) cf) (hf : ∃ fn, P.funcs[ρ.f 6]? = some fn /\ fn.body.isSome = true /\ (fn.name == "runtime.NumGoroutine") = false)
  (ver lo n:Nat) (hlo:pre.length=lo) (hn:d.length=n) (hsz:n<4611686018427387904) :
  Run P (ρ.f 6) [.row ver ((pre++d++post).map F.tr) F.k] [.one (.sl 0 ver lo n), .one (.c (.fn g cs))] [.row ver ((pre++aM cf d++post).map F.tr) F.k] (.tup []):=by
 subst hlo hn
 refine ⟨hf,fun B R γ w vs hi hs hv=>?_⟩
 have hs2:vs.size=2:=hs
 have hv0:=hv 0 vs[0] _ (VB (by omega)) rfl
 have hv1:=hv 1 vs[1] _ (VB (by omega)) rfl
 have evs:vs = #[vs[0],vs[1]]:=by
  apply Array.ext
  ·simp [hs2]
  ·intro i h1 h2
   have:i=0\/i=1:=by omega
   rcases this with rfl|rfl<;>rfl
 generalize vs[0]=v0 at hv0 evs
 generalize vs[1]=v1 at hv1 evs
 subst evs
 have hend : ∀ (cb:Value) W,Inv B R γ [.row ver ((pre++aM cf d++post).map F.tr) F.k] W->Ext B R R w W->Mv R R γ γ [.row ver ((pre++d++post).map F.tr) F.k] [.row ver ((pre++aM cf d++post).map F.tr) F.k] ->
   ∃ v R' γ',Ending.returned (.tuple #[]) = .returned v/\Inv B R' γ' [.row ver ((pre++aM cf d++post).map F.tr) F.k] W/\Ext B R R' w W/\Mv R R' γ γ' [.row ver ((pre++d++post).map F.tr) F.k] [.row ver ((pre++aM cf d++post).map F.tr) F.k]/\(AV.tup []).rep R' γ' [.row ver ((pre++aM cf d++post).map F.tr) F.k] v :=
  fun _ W h1 h2 h3=>⟨_,R,γ,rfl,h1,h2,h3, #[],rfl,rfl,fun j u p hu _=>by simp at hu⟩
 rcases OP hi hv0 with ⟨a,c,rfl,hd⟩|⟨b,c,c',hg,rfl⟩
 ·subst hd
  refine (AnyF.slices_SortFunc_none { L with } a c v1 w).mono fun e w' ⟨he,hw⟩=>?_
  subst he hw
  have hnil:aM cf ([]:List α)=[]:=VC (dU hO [])
  exact hend v1 w' (by rw [hnil];exact hi) (Ext.refl _ _ _) (by rw [hnil];exact Mv.refl)
 ·cases hv1 with
  | fn _ cb _ hcs hce =>
   by_cases hne:d=[]
   ·subst hne
    refine (AnyF.slices_SortFunc_none { L with } _ _ _ w).mono fun e w' ⟨he,hw⟩=>?_
    subst he hw
    have hnil:aM cf ([]:List α)=[]:=VC (dU hO [])
    exact hend (.int .i64 0) w' (by rw [hnil];exact hi) (Ext.refl _ _ _) (by rw [hnil];exact Mv.refl)
   obtain ⟨hH,hb,hR⟩:=Kw (F:=F) hi hg (flatK F.enc F.k d.toArray) (by simp) (fun j hj=>wL d j hj)
   have hcon:=AnyQ.slices_SortFunc_eq L F.k aE zE F.enc F.enc_len (fun x v hv=>by simp only [Flat.enc,VK] at hv;obtain ⟨_,_,rfl⟩:=hv;rfl) cf hO g cb b (pre.length*F.k) c' d.toArray w eg
    (fun m os dk hds x y=>hcmp hne R _ cb (fun b' o u h=>by
     have h':=hi.val b' o u h
     have hlt:=lt_of_cell h'
     have hne:b'≠b:=fun e=>by rw [e,hR o] at h;cases h
     unfold sortWorldK putRowK
     rw [cell?_grow _ _ _ (by simpa [putRow,mapBlock,Sort.ahead] using hlt)]
     have:=cell?_putRow_other id (Sort.ahead w m) b (pre.length*F.k) (flatK F.enc F.k dk) ⟨b',o,none⟩ (Or.inl hne)
     rw [this];exact h') hcs hce x y) hH hb (by simpa using hsz)
   simp only [List.size_toArray] at hcon
   refine hcon.mono fun e w' ⟨he,n',os,hw⟩=>?_
   subst he
   have hw2:w'=grow (putRow id (Sort.ahead w n') b (pre.length*F.k) (flatK F.enc F.k (aM cf d).toArray)) os:=by
    rw [hw];unfold sortWorldK putRowK aM;simp
   subst hw2
   have hl:=dU hO d
   obtain ⟨h1,h2,h3⟩:=Ed (F:=F) (d':=aM cf d) (n0:=n') hl hi hg (flatK F.enc F.k (aM cf d).toArray) (by simp [hl]) (fun j hj=>wL _ j (by rw [hl];exact hj)) os
   exact hend (.int .i64 0) _ h1 h2 h3
def Flat.one (F:Flat α) (x:α):Value := .int .i64 ((F.nums x).headD 0)
theorem Flat.one_eq (hk:F.k=1) (x:α):F.enc x=[F.one x]:=by
 have h:=F.len x
 rw [hk] at h
 unfold Flat.enc Flat.one
 match F.nums x,h with
 | [n],_=>rfl
theorem O1 (hk:F.k=1) : ∀ d:List α,d.flatMap F.enc=d.map F.one
 | []=>rfl
 | x::d=>by rw [VM,O1 hk d,F.one_eq hk];rfl
theorem N_ (W:World) (b off:Nat) (d:Array α):putRow F.one W b off d=putRow id W b off (d.map F.one):=by
 unfold putRow
 refine mapBlock_congr _ _ _ _ fun c _ _ _=>?_
 apply Array.ext_getElem?
 intro k
 simp only [putCells,Array.getElem?_mapIdx,Array.size_map]
 cases c[k]? with
 | none=>rfl
 | some y =>
  simp only [Option.map_some]
  by_cases h:off<=k/\k<off+d.size
  ·rw [if_pos h,if_pos h]
   have h1:k-off<d.size:=by omega
   rw [getElem!_pos d _ h1,getElem!_pos (d.map F.one) _ (by simpa using h1)]
   simp
  ·rw [if_neg h,if_neg h]
theorem JK (hk:F.k=1) (L:SlLaysF.n6 P ρ) (cf:α->α->Int) (hO:SWO (ltOf cf)) (g:Nat) (cs:List AC) {pre d post:List α}
  (eg : ∀ args w, (callFunc g args).run P w = .ok (.enter g args) w) (hcmp : d ≠ [] -> G5 P F g cs F.one cf) (hf : ∃ fn, P.funcs[ρ.f 6]? = some fn /\ fn.body.isSome = true /\ (fn.name == "runtime.NumGoroutine") = false)
  (ver lo n:Nat) (hlo:pre.length=lo) (hn:d.length=n) (hsz:n<4611686018427387904) :
  Run P (ρ.f 6) [.row ver ((pre++d++post).map F.tr) F.k] [.one (.sl 0 ver lo n), .one (.c (.fn g cs))] [.row ver ((pre++aM cf d++post).map F.tr) F.k] (.tup []):=by
 subst hlo hn
 refine ⟨hf,fun B R γ w vs hi hs hv=>?_⟩
 have hs2:vs.size=2:=hs
 have hv0:=hv 0 vs[0] _ (VB (by omega)) rfl
 have hv1:=hv 1 vs[1] _ (VB (by omega)) rfl
 have evs:vs = #[vs[0],vs[1]]:=by
  apply Array.ext
  ·simp [hs2]
  ·intro i h1 h2
   have:i=0\/i=1:=by omega
   rcases this with rfl|rfl<;>rfl
 generalize vs[0]=v0 at hv0 evs
 generalize vs[1]=v1 at hv1 evs
 subst evs
 have hend : ∀ W,Inv B R γ [.row ver ((pre++aM cf d++post).map F.tr) F.k] W->Ext B R R w W->Mv R R γ γ [.row ver ((pre++d++post).map F.tr) F.k] [.row ver ((pre++aM cf d++post).map F.tr) F.k] ->
   ∃ v R' γ',Ending.returned (.tuple #[]) = .returned v/\Inv B R' γ' [.row ver ((pre++aM cf d++post).map F.tr) F.k] W/\Ext B R R' w W/\Mv R R' γ γ' [.row ver ((pre++d++post).map F.tr) F.k] [.row ver ((pre++aM cf d++post).map F.tr) F.k]/\(AV.tup []).rep R' γ' [.row ver ((pre++aM cf d++post).map F.tr) F.k] v :=
  fun W h1 h2 h3=>⟨_,R,γ,rfl,h1,h2,h3, #[],rfl,rfl,fun j u p hu _=>by simp at hu⟩
 have hi:Inv B R γ [.row ver ((pre++d++post).map F.tr) F.k] w:=hi
 rcases OP (F:=F) hi hv0 with ⟨a,c,rfl,hd⟩|⟨b,c,c',hg,rfl⟩
 ·subst hd
  refine (AnyF.slices_SortFunc_none { L with } a c v1 w).mono fun e w' ⟨he,hw⟩=>?_
  subst he hw
  have hnil:aM cf ([]:List α)=[]:=VC (dU hO [])
  exact hend w' (by rw [hnil];exact hi) (Ext.refl _ _ _) (by rw [hnil];exact Mv.refl)
 ·cases hv1 with
  | fn _ cb _ hcs hce =>
   by_cases hne:d=[]
   ·subst hne
    refine (AnyF.slices_SortFunc_none { L with } _ _ _ w).mono fun e w' ⟨he,hw⟩=>?_
    subst he hw
    have hnil:aM cf ([]:List α)=[]:=VC (dU hO [])
    exact hend w' (by rw [hnil];exact hi) (Ext.refl _ _ _) (by rw [hnil];exact Mv.refl)
   have hcell : ∀ l:List α, ∀ j,j<l.length*F.k->(l.toArray.map F.one)[j]?=(l.flatMap F.enc)[j]?:=fun l j _=>by rw [O1 hk];simp
   obtain ⟨hH,hb,hR⟩:=Kw (F:=F) hi hg (d.toArray.map F.one) (by simp [hk]) (hcell d)
   have hH':Holds F.one w b (pre.length*F.k) d.toArray:=fun j hj=>by
    have h:=hH j (by simpa using hj)
    rw [getElem!_pos (d.toArray.map F.one) j (by simpa using hj)] at h
    rw [getElem!_pos d.toArray j hj]
    simpa using h
   have hcon:=Any.slices_SortFunc_eq L F.one (fun _=>rfl) cf hO g cb b (pre.length*F.k) c' d.toArray w eg
    (fun m os dk hds x y=>hcmp hne R _ cb (fun b' o u h=>by
     have h':=hi.val b' o u h
     have hlt:=lt_of_cell h'
     have hne:b'≠b:=fun e=>by rw [e,hR o] at h;cases h
     unfold sortWorld
     rw [cell?_grow _ _ _ (by simpa [putRow,mapBlock,Sort.ahead] using hlt)]
     have:=cell?_putRow_other F.one (Sort.ahead w m) b (pre.length*F.k) dk ⟨b',o,none⟩ (Or.inl hne)
     rw [this];exact h') hcs hce x y) hH' hb (by simpa using hsz)
   simp only [List.size_toArray] at hcon
   refine hcon.mono fun e w' ⟨he,n',os,hw⟩=>?_
   subst he
   have hw2:w'=grow (putRow id (Sort.ahead w n') b (pre.length*F.k) ((aM cf d).toArray.map F.one)) os:=by
    rw [hw];unfold sortWorld aM;rw [N_];simp
   subst hw2
   have hl:=dU hO d
   obtain ⟨h1,h2,h3⟩:=Ed (F:=F) (d':=aM cf d) (n0:=n') hl hi hg ((aM cf d).toArray.map F.one) (by simp [hl,hk]) (fun j hj=>hcell _ j (by rw [hl];exact hj)) os
   exact hend _ h1 h2 h3
end
end Go.Proofs.YtlcceppoloaecaaGreatDoor
namespace Go.Proofs
open Go.Shelf
def Tryz.sortInt_ren:Go.Shelf.Ren:=⟨fun|6=>39|15=>81|14=>80|28=>129|29=>130|20=>121|21=>122|22=>123|23=>124|24=>125|25=>126|26=>127|27=>128|46=>191|47=>192|48=>193|49=>194|50=>195|57=>233|n=>n,fun|22=>29|24=>3|25=>65|3=>3|39=>103|0=>0|53=>143|55=>145|4=>4|46=>137|45=>136|50=>106|5=>5|9=>9|66=>179|70=>183|76=>218|77=>188|n=>n,fun|n=>n⟩
theorem Tryz.sortInt:Go.Proofs.SlLaysF.n6 Tryz.prog Tryz.sortInt_ren := {
 mixed:=by kernel_rfl
 f6:=⟨Tryz.f39.name,by decide,Tryz.func39.trans (congrArg some (by kernel_rfl))⟩
 f14:=⟨Tryz.f80.name,by decide,Tryz.func80.trans (congrArg some (by kernel_rfl))⟩
 f15:=Tryz.func81.trans (congrArg some (by kernel_rfl))
 f20:=⟨Tryz.f121.name,by decide,Tryz.func121.trans (congrArg some (by kernel_rfl))⟩
 f21:=⟨Tryz.f122.name,by decide,Tryz.func122.trans (congrArg some (by kernel_rfl))⟩
 f22:=⟨Tryz.f123.name,by decide,Tryz.func123.trans (congrArg some (by kernel_rfl))⟩
 f23:=⟨Tryz.f124.name,by decide,Tryz.func124.trans (congrArg some (by kernel_rfl))⟩
 f24:=⟨Tryz.f125.name,by decide,Tryz.func125.trans (congrArg some (by kernel_rfl))⟩
 f25:=⟨Tryz.f126.name,by decide,Tryz.func126.trans (congrArg some (by kernel_rfl))⟩
 f26:=⟨Tryz.f127.name,by decide,Tryz.func127.trans (congrArg some (by kernel_rfl))⟩
 f27:=⟨Tryz.f128.name,by decide,Tryz.func128.trans (congrArg some (by kernel_rfl))⟩
 f28:=Tryz.func129.trans (congrArg some (by kernel_rfl))
 f29:=Tryz.func130.trans (congrArg some (by kernel_rfl))
 f46:=⟨Tryz.f191.name,by decide,Tryz.func191.trans (congrArg some (by kernel_rfl))⟩
 f47:=Tryz.func192.trans (congrArg some (by kernel_rfl))
 f48:=Tryz.func193.trans (congrArg some (by kernel_rfl))
 f49:=⟨Tryz.f194.name,by decide,Tryz.func194.trans (congrArg some (by kernel_rfl))⟩
 f50:=⟨Tryz.f195.name,by decide,Tryz.func195.trans (congrArg some (by kernel_rfl))⟩
 f57:=⟨Tryz.f233.name,by decide,Tryz.func233.trans (congrArg some (by kernel_rfl))⟩
 t0:=Tryz.underlying0
 a0:=Tryz.isAgg0
 z0:=Tryz.sizeOf0
 v0:=Tryz.zeroValue0
 t3:=Tryz.underlying3
 a3:=Tryz.isAgg3
 z3:=Tryz.sizeOf3
 v3:=Tryz.zeroValue3
 t4:=Tryz.underlying4
 a4:=Tryz.isAgg4
 z4:=Tryz.sizeOf4
 v4:=Tryz.zeroValue4
 t5:=Tryz.underlying5
 a5:=Tryz.isAgg5
 z5:=Tryz.sizeOf5
 v5:=Tryz.zeroValue5
 t9:=Tryz.underlying9
 a9:=Tryz.isAgg9
 z9:=Tryz.sizeOf9
 v9:=Tryz.zeroValue9
 t22:=Tryz.underlying29
 a22:=Tryz.isAgg29
 z22:=Tryz.sizeOf29
 v22:=Tryz.zeroValue29
 a24:=Tryz.isAgg3
 z24:=Tryz.sizeOf3
 t25:=Tryz.underlying65
 a25:=Tryz.isAgg65
 z25:=Tryz.sizeOf65
 v25:=Tryz.zeroValue65
 t39:=Tryz.underlying103
 a39:=Tryz.isAgg103
 z39:=Tryz.sizeOf103
 v39:=Tryz.zeroValue103
 t45:=Tryz.underlying136
 a45:=Tryz.isAgg136
 z45:=Tryz.sizeOf136
 v45:=Tryz.zeroValue136
 t46:=Tryz.underlying137
 a46:=Tryz.isAgg137
 z46:=Tryz.sizeOf137
 v46:=Tryz.zeroValue137
 t50:=Tryz.underlying106
 a50:=Tryz.isAgg106
 z50:=Tryz.sizeOf106
 v50:=Tryz.zeroValue106
 t53:=Tryz.underlying143
 a53:=Tryz.isAgg143
 z53:=Tryz.sizeOf143
 v53:=Tryz.zeroValue143
 t55:=Tryz.underlying145
 a55:=Tryz.isAgg145
 z55:=Tryz.sizeOf145
 v55:=Tryz.zeroValue145
 t66:=Tryz.underlying179
 a66:=Tryz.isAgg179
 z66:=Tryz.sizeOf179
 v66:=Tryz.zeroValue179
 t70:=Tryz.underlying183
 a70:=Tryz.isAgg183
 z70:=Tryz.sizeOf183
 v70:=Tryz.zeroValue183
 t76:=Tryz.underlying218
 a76:=Tryz.isAgg218
 z76:=Tryz.sizeOf218
 v76:=Tryz.zeroValue218
 t77:=Tryz.underlying188
 a77:=Tryz.isAgg188
 z77:=Tryz.sizeOf188
 v77:=Tryz.zeroValue188 }
def Tryz.sortPair_ren:Go.Shelf.Ren:=⟨fun|6=>42|15=>81|14=>83|28=>129|29=>130|20=>131|21=>132|22=>133|23=>134|24=>135|25=>136|26=>137|27=>138|46=>196|47=>192|48=>193|49=>197|50=>198|57=>234|n=>n,fun|22=>25|24=>63|25=>67|3=>3|39=>103|0=>0|53=>143|55=>145|4=>4|46=>137|45=>136|50=>106|5=>5|9=>9|66=>179|70=>183|76=>218|77=>188|n=>n,fun|n=>n⟩
theorem Tryz.sortPair:Go.Proofs.SlLaysF0.n6 Tryz.prog Tryz.sortPair_ren := {
 mixed:=by kernel_rfl
 f6:=⟨Tryz.f42.name,by decide,Tryz.func42.trans (congrArg some (by kernel_rfl))⟩
 f14:=⟨Tryz.f83.name,by decide,Tryz.func83.trans (congrArg some (by kernel_rfl))⟩
 f15:=Tryz.func81.trans (congrArg some (by kernel_rfl))
 f20:=⟨Tryz.f131.name,by decide,Tryz.func131.trans (congrArg some (by kernel_rfl))⟩
 f21:=⟨Tryz.f132.name,by decide,Tryz.func132.trans (congrArg some (by kernel_rfl))⟩
 f22:=⟨Tryz.f133.name,by decide,Tryz.func133.trans (congrArg some (by kernel_rfl))⟩
 f23:=⟨Tryz.f134.name,by decide,Tryz.func134.trans (congrArg some (by kernel_rfl))⟩
 f24:=⟨Tryz.f135.name,by decide,Tryz.func135.trans (congrArg some (by kernel_rfl))⟩
 f25:=⟨Tryz.f136.name,by decide,Tryz.func136.trans (congrArg some (by kernel_rfl))⟩
 f26:=⟨Tryz.f137.name,by decide,Tryz.func137.trans (congrArg some (by kernel_rfl))⟩
 f27:=⟨Tryz.f138.name,by decide,Tryz.func138.trans (congrArg some (by kernel_rfl))⟩
 f28:=Tryz.func129.trans (congrArg some (by kernel_rfl))
 f29:=Tryz.func130.trans (congrArg some (by kernel_rfl))
 f46:=⟨Tryz.f196.name,by decide,Tryz.func196.trans (congrArg some (by kernel_rfl))⟩
 f47:=Tryz.func192.trans (congrArg some (by kernel_rfl))
 f48:=Tryz.func193.trans (congrArg some (by kernel_rfl))
 f49:=⟨Tryz.f197.name,by decide,Tryz.func197.trans (congrArg some (by kernel_rfl))⟩
 f50:=⟨Tryz.f198.name,by decide,Tryz.func198.trans (congrArg some (by kernel_rfl))⟩
 f57:=⟨Tryz.f234.name,by decide,Tryz.func234.trans (congrArg some (by kernel_rfl))⟩
 t0:=Tryz.underlying0
 a0:=Tryz.isAgg0
 z0:=Tryz.sizeOf0
 v0:=Tryz.zeroValue0
 t3:=Tryz.underlying3
 a3:=Tryz.isAgg3
 z3:=Tryz.sizeOf3
 v3:=Tryz.zeroValue3
 t4:=Tryz.underlying4
 a4:=Tryz.isAgg4
 z4:=Tryz.sizeOf4
 v4:=Tryz.zeroValue4
 t5:=Tryz.underlying5
 a5:=Tryz.isAgg5
 z5:=Tryz.sizeOf5
 v5:=Tryz.zeroValue5
 t9:=Tryz.underlying9
 a9:=Tryz.isAgg9
 z9:=Tryz.sizeOf9
 v9:=Tryz.zeroValue9
 t22:=Tryz.underlying25
 a22:=Tryz.isAgg25
 z22:=Tryz.sizeOf25
 v22:=Tryz.zeroValue25
 t25:=Tryz.underlying67
 a25:=Tryz.isAgg67
 z25:=Tryz.sizeOf67
 v25:=Tryz.zeroValue67
 t39:=Tryz.underlying103
 a39:=Tryz.isAgg103
 z39:=Tryz.sizeOf103
 v39:=Tryz.zeroValue103
 t45:=Tryz.underlying136
 a45:=Tryz.isAgg136
 z45:=Tryz.sizeOf136
 v45:=Tryz.zeroValue136
 t46:=Tryz.underlying137
 a46:=Tryz.isAgg137
 z46:=Tryz.sizeOf137
 v46:=Tryz.zeroValue137
 t50:=Tryz.underlying106
 a50:=Tryz.isAgg106
 z50:=Tryz.sizeOf106
 v50:=Tryz.zeroValue106
 t53:=Tryz.underlying143
 a53:=Tryz.isAgg143
 z53:=Tryz.sizeOf143
 v53:=Tryz.zeroValue143
 t55:=Tryz.underlying145
 a55:=Tryz.isAgg145
 z55:=Tryz.sizeOf145
 v55:=Tryz.zeroValue145
 t66:=Tryz.underlying179
 a66:=Tryz.isAgg179
 z66:=Tryz.sizeOf179
 v66:=Tryz.zeroValue179
 t70:=Tryz.underlying183
 a70:=Tryz.isAgg183
 z70:=Tryz.sizeOf183
 v70:=Tryz.zeroValue183
 t76:=Tryz.underlying218
 a76:=Tryz.isAgg218
 z76:=Tryz.sizeOf218
 v76:=Tryz.zeroValue218
 t77:=Tryz.underlying188
 a77:=Tryz.isAgg188
 z77:=Tryz.sizeOf188
 v77:=Tryz.zeroValue188 }
def Tryz.cmpInt_ren:Go.Shelf.Ren:=⟨fun|5=>41|7=>82|n=>n,fun|22=>3|3=>3|4=>4|n=>n,fun|n=>n⟩
theorem Tryz.cmpInt:Go.Proofs.SlLaysC2.n5 Tryz.prog Tryz.cmpInt_ren := {
 mixed:=by kernel_rfl
 f5:=⟨Tryz.f41.name,by decide,Tryz.func41.trans (congrArg some (by kernel_rfl))⟩
 f7:=⟨Tryz.f82.name,by decide,Tryz.func82.trans (congrArg some (by kernel_rfl))⟩
 t3:=Tryz.underlying3
 a3:=Tryz.isAgg3
 z3:=Tryz.sizeOf3
 v3:=Tryz.zeroValue3
 t4:=Tryz.underlying4
 a4:=Tryz.isAgg4
 z4:=Tryz.sizeOf4
 v4:=Tryz.zeroValue4
 t22:=Tryz.underlying3
 a22:=Tryz.isAgg3
 z22:=Tryz.sizeOf3
 v22:=Tryz.zeroValue3 }
end Go.Proofs
namespace Go.Proofs.YtlcceppoloaecaaGreatDoor
open Go.RowKit Go.Shelf Go.Lib Go.Sort
theorem RF {α:Type} (f:α->Int) (x y:α):ltOf (fun x y=>Lib.compareInt (f x) (f y)) x y=decide (f x<f y):=by
 unfold ltOf Lib.compareInt
 by_cases h1:f x<f y
 ·simp [h1]
 ·by_cases h2:f y<f x<;>simp [h1,h2]
theorem R3 {α:Type} (f:α->Int):SWO (ltOf fun x y=>Lib.compareInt (f x) (f y)) where
 irrefl x:=by rw [RF];simp
 trans x y z h1 h2:=by rw [RF] at *;simp at *;omega
 ntrans x y z h1 h2:=by rw [RF] at *;simp at *;omega
def Qe:Flat bA:=⟨2,fun p=>[p.a,p.b],fun _=>rfl,by omega⟩
theorem P_ {cb:Array Value} (h:cb.size=([]:List AC).length):cb = #[]:=by
 apply Array.eq_empty_of_size_eq_zero
 simpa using h
theorem LG:G5 Tryz.prog Qe 43 [] (fun x => .agg (Qe.enc x).toArray) (fun x y=>Lib.compareInt x.b y.b):=by
 intro R W cb _ hs _ x y
 obtain rfl:=P_ hs
 show Calls Tryz.prog 43 #[.agg #[.int .i64 x.a, .int .i64 x.b], .agg #[.int .i64 y.a, .int .i64 y.b]] W fun e w'=>e = .returned (.int .i64 (Lib.compareInt x.b y.b)) /\ ∃ q os',w'=grow (W.drewN q) os'
 have hcon:=fun W=>AnyG.cmp_Compare_int Tryz.cmpInt x.b y.b W
 change ∀ W,Calls Tryz.prog 41 _ _ _ at hcon
 generalize Lib.compareInt x.b y.b=r at hcon ⊢
 go_enter Tryz.func43,Tryz.ntmps43
 go_wp2_with (go_at_call 41;refine (hcon _).mono ?_;rintro e w' ⟨rfl,rfl⟩)
 go_ret
 exact ⟨rfl,0,_,by rw [alloc_eq_grow,alloc_eq_grow,grow_grow];rfl⟩
def Jk (n:Nat):Type := { x:Int // 0<=x/\(x<(n:Int)\/x=0) }
instance (n : Nat) : Inhabited (Jk n) := ⟨⟨0, Int.le_refl _, .inr rfl⟩⟩
def Og (n:Nat):Flat (Jk n):=⟨1,fun x=>[x.1],fun _=>rfl,by omega⟩
def kL (b:List aV) (k:Int):Int:=match b[k.toNat]? with
 | some y=>y.valid.lo
 | none=>0
theorem Pw {cb:Array Value} {x:AC} (h:cb.size=[x].length) : ∃ v,cb = #[v]:=by
 obtain ⟨l⟩:=cb
 match l,h with
 | [v],_=>exact ⟨v,rfl⟩
set_option maxHeartbeats 1000000 in
theorem FM (W:World) (b0 o0 b1 o1 n c i j:Nat) (p q:Int) (hi:i<n) (hj:j<n) (hn:n<=1000) (h0:W.cell? ⟨b0,o0,none⟩=some (.slice (some ⟨b1,o1,none⟩) n c)) (h1:W.cell? ⟨b1,o1+i*3+1,none⟩=some (.int .i64 p)) (h2:W.cell? ⟨b1,o1+j*3+1,none⟩=some (.int .i64 q)) :
  Calls Tryz.prog 40 #[.int .i64 (i:Int), .int .i64 (j:Int), .pointer (some ⟨b0,o0,none⟩)] W fun e w'=>e = .returned (.int .i64 (Lib.compareInt p q)) /\ ∃ q os',w'=grow (W.drewN q) os':=by
 have hcon:=fun W=>AnyG.cmp_Compare_int Tryz.cmpInt p q W
 change ∀ W,Calls Tryz.prog 41 _ _ _ at hcon
 generalize Lib.compareInt p q=r at hcon ⊢
 go_enter Tryz.func40,Tryz.ntmps40
 go_wp2_with fail
 go_region_held3 (fun w'=>w'.cell? ⟨b0,o0,none⟩=some (.slice (some ⟨b1,o1,none⟩) n c)/\w'.cell? ⟨b1,o1+i*3+1,none⟩=some (.int .i64 p)/\w'.cell? ⟨b1,o1+j*3+1,none⟩=some (.int .i64 q))
  (first|go_keep)
  (first|(go_at_call 41;((with_reducible refine (hcon _).mono ?_);rintro e w' ⟨rfl,rfl⟩)))
 go_wp2_with fail
 go_ret
 exact ⟨rfl,1, #[],by rw [grow_empty];rfl⟩
theorem Jb {b:List aV} (h0:0<b.length) (hb:b.length<=1000):G5 Tryz.prog (Og b.length) 40 [.ref [.lst (b.map a_)]] (Og b.length).one (fun x y=>Lib.compareInt (kL b x.1) (kL b y.1)):=by
 intro R W cb hR hs hc x y
 obtain ⟨v,rfl⟩:=Pw hs
 have hv:=hc 0 v _ rfl rfl
 obtain ⟨x,hx1,hx2⟩:=x
 obtain ⟨y,hy1,hy2⟩:=y
 obtain ⟨i,rfl⟩:=Int.eq_ofNat_of_zero_le hx1
 obtain ⟨j,rfl⟩:=Int.eq_ofNat_of_zero_le hy1
 have hxl:i<b.length:=by omega
 have hyl:j<b.length:=by omega
 cases hv with
 | ref b0 o0 _ cv hr he =>
  have hcell0:=hR _ _ _ (hr 0 (by simp))
  rw [Nat.add_zero] at hcell0
  have hp:=he 0 _ rfl
  generalize cv 0=sv at hcell0 hp
  cases hp with
  | lst a n c _ k cw b1 o1 hn hnc hk ha hr2 he2 =>
   have hk3:k=3:=by
    have:=hk (a_ b[i]) (VK.2 ⟨_,List.getElem_mem hxl,rfl⟩)
    rw [<- this];rfl
   subst hk3
   have hn':b.length=n:=by simpa using hn
   subst hn'
   obtain rfl:=ha h0
   have cell : ∀ (i:Nat) (hi:i<b.length),W.cell? ⟨b1,o1+i*3+1,none⟩=some (.int .i64 b[i].valid.lo):=fun i hi=>by
    have h1:=hR _ _ _ (hr2 (i*3+1) (by omega))
    have h2:=he2 i (a_ b[i]) 1 (.int .i64 b[i].valid.lo) (by rw [Vz,Vl hi];rfl) rfl
    cases h3:cw (i*3+1)<;>rw [h3] at h2 h1<;>cases h2
    rw [Nat.add_assoc];exact h1
   have cx:=cell i hxl
   have cy:=cell j hyl
   have lx:kL b (i:Int)=b[i].valid.lo:=by unfold kL;rw [Int.toNat_natCast,Vl hxl]
   have ly:kL b (j:Int)=b[j].valid.lo:=by unfold kL;rw [Int.toNat_natCast,Vl hyl]
   show Calls Tryz.prog 40 #[.int .i64 (i:Int), .int .i64 (j:Int), .pointer (some ⟨b0,o0,none⟩)] W fun e w'=>e = .returned (.int .i64 (Lib.compareInt (kL b (i:Int)) (kL b (j:Int)))) /\ ∃ q os',w'=grow (W.drewN q) os'
   rw [lx,ly]
   exact FM W b0 o0 b1 o1 b.length c i j _ _ hxl hyl hb hcell0 cx cy
open Go.RowKit Go.MapKept
set_option maxRecDepth 100000
theorem bG : ∀ {n:Nat} {L:List Ob}, tK n L -> ∀ x∈L,x.below n
 | _,_::_,h,x,hx=>by
  rcases Vt.1 hx with rfl|hx
  ·exact h.1
  ·exact bG h.2 x hx
def gC (x:AC):List SV:=[.c x]
theorem H7 (σ:List Nat) (v k:Nat) (l:List AC):(Ob.row v (l.map gC) k).ren σ=Ob.row v (l.map gC) k:=by
 simp only [Ob.ren,List.map_map];rfl
theorem j1 {L L':List Ob} {v k:Nat} {l:List AC} (h:L.set 0 (Ob.row v (l.map gC) k)=L'):joinL [0] L [Ob.row v (l.map gC) k]=L':=by
 subst h
 simp [joinL,join,gF,cz,qB,H7]
theorem l6 {n:Nat} {l:List AV} (h:uo n (l.map fun x=>(0,x))) : ∀ y∈l,y.below n:=by
 induction l with
 | nil=>intro y hy;cases hy
 | cons x l ih =>
  intro y hy
  rcases Vt.1 hy with rfl|hy
  ·exact h.1
  ·exact ih h.2 y hy
end Go.Proofs.YtlcceppoloaecaaGreatDoor
namespace Go.Proofs
open Go.Shelf
def Tryz.growV_ren:Go.Shelf.Ren:=⟨fun|4=>155|n=>n,fun|22=>50|25=>33|3=>3|4=>4|9=>9|20=>20|0=>0|n=>n,fun|n=>n⟩
theorem Tryz.growV:Go.Proofs.Lays8.n4 Tryz.prog Tryz.growV_ren := {
 mixed:=by kernel_rfl
 f4:=⟨Tryz.f155.name,by decide,Tryz.func155.trans (congrArg some (by kernel_rfl))⟩
 t0:=Tryz.underlying0
 a0:=Tryz.isAgg0
 z0:=Tryz.sizeOf0
 v0:=Tryz.zeroValue0
 t3:=Tryz.underlying3
 a3:=Tryz.isAgg3
 z3:=Tryz.sizeOf3
 v3:=Tryz.zeroValue3
 t4:=Tryz.underlying4
 a4:=Tryz.isAgg4
 z4:=Tryz.sizeOf4
 v4:=Tryz.zeroValue4
 t9:=Tryz.underlying9
 a9:=Tryz.isAgg9
 z9:=Tryz.sizeOf9
 v9:=Tryz.zeroValue9
 t20:=Tryz.underlying20
 a20:=Tryz.isAgg20
 z20:=Tryz.sizeOf20
 v20:=Tryz.zeroValue20
 t22:=Tryz.underlying50
 a22:=Tryz.isAgg50
 z22:=Tryz.sizeOf50
 v22:=Tryz.zeroValue50 }
end Go.Proofs
namespace Go.Proofs.YtlcceppoloaecaaGreatDoor
open Go.RowKit Go.MapKept
set_option maxRecDepth 100000
theorem KA (n:Nat) (h0:0<n) (hn:n<=1000000000):Run Tryz.prog 155 [] [.one .emp, .one (.c (.int .i64 n))] [.row (33+65536) [] 3] (.one (.sl 0 (33+65536) 0 0)):=by
 refine ⟨⟨_,Tryz.func155,by kernel_rfl,by kernel_rfl⟩,fun B R γ w vs hi hs hv=>?_⟩
 obtain ⟨v1,v2,rfl⟩ : ∃ a b,vs = #[a,b]:=by
  match vs,hs with
  | ⟨[a,b]⟩,_=>exact ⟨a,b,rfl⟩
 obtain ⟨a,rfl⟩:=hv 0 v1 _ rfl rfl
 have h2:aJ R v2 (.int .i64 n):=hv 1 v2 _ rfl rfl
 cases h2
 obtain ⟨inf,z,hinf,hzz,hisz,hzc⟩:=ae.zok 33 rfl 3 (ae.size _ _ rfl)
 have hbytes:inf.bytes=32:=by have hby:=ae.bytes 33 32 rfl;unfold iT at hby;rw [hinf] at hby;simpa using hby
 have hgr:=Any8.slices_Grow_grow Tryz.growV inf z hinf hzz (by rw [hisz];decide) a 0 0 n [] w (Vs _) (by omega) (by rw [hbytes];omega) (by omega) (by simp) (fun _=>rfl) (fun _ _ j v h=>by simp at h)
 refine (show Calls Tryz.prog 155 #[.slice a 0 0, .int .i64 n] w _ from hgr).mono ?_
 rintro e w' ⟨rfl,rfl⟩
 have hcap:=grownCap_ge w (0+n) 0 33
 have hE:(Tryz.growV_ren.t 25)=33:=rfl
 rw [hE]
 generalize grownCap w (0+n) 0 33=cap at hcap
 have hγ:γ=[]:=VC (by rw [hi.len];rfl)
 subst hγ
 have hm:Mv R R ([]:List Gh) ([]++[.arr w.heap.size cap]) [] ([]++[.row (33+65536) [] 3]):=Mv.push _ _ hi.len
 have hIp:Inv B R ([]++[.arr w.heap.size cap]) ([]++[.row (33+65536) [] 3]) (w.alloc (.cells (([]:List Value).toArray++Builtin.zeroCells z.cells (0+n-0)++Builtin.zeroCells z.cells (cap-(0+n))) 33)):=by
  refine hi.push _ _ _ rfl ⟨⟨_,33,⟨bZ w _,by show (33:Nat)=(33+65536)%65536;omega,by show 65536<=(33:Nat)+65536;omega⟩,?_,fun i e j u x he hu hx=>by simp at he⟩,Vx _,by decide,(fun e he=>by cases he),fun o=>hi.none_at o⟩
  rw [Array.size_append,Array.size_append,size_zeroCells,size_zeroCells,hzc]
  simp only [List.size_toArray,List.length_nil]
  rw [VQ, <- Nat.add_mul];congr 1;omega
 refine ⟨_,R,_,rfl,⟨hIp.len,fun b o u h=>hIp.val b o u h,fun i x g h1 h2=>(hIp.obj i x g h1 h2).mv Mv.refl (fun _ _=>rfl) (fun _ _ _ h=>h),hIp.inj,hIp.new,hIp.bsz⟩,⟨⟨rfl,rfl,rfl,by show w.heap.size<=(w.heap.push _).size;simp,fun b hb=>dD w.drew _ (hi.bsz b hb)⟩,PH.sub_refl _,fun _ _ _=>rfl⟩,hm,⟨rfl,rfl⟩,by simp,fun ver2 es2 k2 e2=>?_⟩
 simp at e2
 obtain ⟨q1,q2,q3⟩:=e2
 subst q1 q2 q3
 exact ⟨Vs _,fun _=>⟨by simp, .arr w.heap.size cap,rfl, .inl (by simp)⟩⟩
def h_ (p:SV) (u:Nat) (s:ByteArray) (i:Nat):Ob := .row (238+65536) [[p, .sl (i+1) u 0 s.size]] 2
def gL (u:Nat) (s:ByteArray):Ob := .row u (aH s) 1
theorem CW (σ:List Nat) (s:ByteArray):(aH s).map (List.map (SV.ren σ))=aH s:=by
 unfold aH
 rw [List.map_map];rfl
theorem eT (σ:List Nat) (u:Nat) (s:ByteArray):(gL u s).ren σ=gL u s:=by simp only [gL,Ob.ren,CW]
theorem Dw {i j:Nat} {L L':List Ob} {a b a' b':Ob} (ha:a.ren [i,j]=a') (hb:b.ren [i,j]=b') (h:(L.set i a').set j b'=L'):joinL [i,j] L [a,b]=L':=by
 subst ha hb h
 simp [joinL,join,gF,cz,qB]
end Go.Proofs.YtlcceppoloaecaaGreatDoor
namespace Go.Proofs
open Go.Shelf
end Go.Proofs
namespace Go.Proofs.YtlcceppoloaecaaGreatDoor
open Go.Shelf Go.RowKit Go.Sort Go.Lib
set_option maxHeartbeats 6400000
set_option maxRecDepth 100000
section
variable {P:Program} {ρ:Ren}
def C_ (g:Nat) (w:World):Prop := ∀ q,q<20->w.cell? ⟨g,q,none⟩=some (.int .u64 ((10 ^ q:Nat):Int))
theorem C_.alloc {g:Nat} {w:World} (h:C_ g w) (o:Obj):C_ g (w.alloc o):=fun q hq=>by
 rw [World.cell?_alloc_old]
 ·exact h q hq
 ·exact Nat.ne_of_lt (lt_of_cell (h q hq))
end
open Go.RowKit Go.MapKept
theorem j2 {L L':List Ob} {u:Nat} {s:ByteArray} (h:(L.set 0 (h_ (.ep 0 (238+65536) 0 0) u s 0)).set 1 (gL u s)=L'):joinL [0,1] L [h_ (.ep 0 (238+65536) 0 0) u s 0,gL u s]=L':=Dw rfl (eT _ _ _) h
set_option maxHeartbeats 8000000
def RG:TI := { tab with owns:=fun f=>f==155||tab.owns f }
theorem eY:TIok Tryz.prog RG:=⟨tab_ok.size,tab_ok.agg,tab_ok.elem,tab_ok.field,tab_ok.zero,tab_ok.bytes,tab_ok.kind,tab_ok.struct,tab_ok.zok,tab_ok.eqs⟩
def Aa (a b:List Val):Nat->Nat
 | 0=>0
 | 1=>a.length
 | _=>a.length+b.length
def Mo (a b:List Val):Nat->List Val
 | 0=>[]
 | 1=>a
 | _=>a++b
theorem Du (l:List Val) : ∀ e∈l.map cV,e.length=3:=by intro e he;obtain ⟨x,_,rfl⟩:=VK.1 he;rfl
theorem BJ {id v w n m:Nat} (h:n=m) (hv:v=w):some (AV.one (.sl id v 0 n))=some (AV.one (.sl id w 0 m)):=by subst h hv;rfl
theorem ES {v w k:Nat} {a b:List (List SV)} (h:a=b) (hv:v=w):[Ob.row v a k]=[Ob.row w b k]:=by rw [h,hv]
theorem uL (a b:List Val) (h0:0<a.length+b.length) (h1:a.length+b.length<=1000000):Pure Tryz.prog 97 [.one (.lst [[sP a],[sP b]])] (.val (.one (sP (a++b)))):=by
 refine pa_ eY Tryz.func97 rfl rfl Tryz.ntmps97 (by simp) ?_
 simp only [argT,PV.av,Vn,Vr]
 have ha:(((a.map cV).length:Nat):Int)=a.length:=by simp
 have hb:(((b.map cV).length:Nat):Int)=b.length:=by simp
 have w1:IntKind.i64.wrap (((Aa a b 0:Nat):Int)+((a.map cV).length:Nat))=((Aa a b 1:Nat):Int):=by rw [ha];exact dm (by simp [Aa]) (by simp only [Aa];omega)
 have w2:IntKind.i64.wrap (((Aa a b 1:Nat):Int)+((b.map cV).length:Nat))=((Aa a b 2:Nat):Int):=by rw [hb];exact dm (by simp [Aa]) (by simp only [Aa];omega)
 have n1:decide (((Aa a b 1:Nat):Int)<0)=false:=Vf (by omega)
 have n2:decide (((Aa a b 2:Nat):Int)<0)=false:=Vf (by omega)
 repeat' (first
  | refine st_nil ?_
  | refine aF rfl rfl rfl rfl ph_ ?_
  | refine aK rfl rfl rfl rfl ph_ ?_
  | refine sS_ rfl rfl rfl ph_ ?_
  | refine aI rfl rfl rfl rfl ph_ ?_
  | refine aD rfl rfl rfl ?_
  | refine sk0_ rfl rfl ?_
  | (refine bg rfl (fun hb=>?_) (fun hb=>?_)<;>(first|exact (fx_ hb).elim|rw [hb]))
  | refine aw_seq ?_
  | refine aw_region eY _ rfl ?_
  | refine aw_drawn2 tabS_ok _ rfl mixed (by decide +kernel) ?_
  | (refine aA rfl (fun hb=>?_) (fun hb=>?_)<;>(try exact (fx_ hb).elim))
  | refine aw_block ?_
  | refine aw_exit ?_
  | refine aw_ret ?_
  | refine aw_skip ?_)
 refine nX (fun i:Nat=>[(0, .one (.c (.lst [[sP a],[sP b]]))),(3, .one (.c (.int .i64 (Aa a b i)))),(9, .one (.c (.lst [[sP a],[sP b]]))),(10, .one (.c (.int .i64 2))),(11, .one (.c (.int .i64 i)))]) (fun _=>[]) (fun i=>i<=2) (fun i=>2-i) 0 (by omega) (fun _ _=>Vx _)
  (fm_ ⟨rfl,rfl,rfl,rfl,rfl,trivial⟩ [] rfl (by repeat' (first|exact trivial|apply And.intro)) (by repeat' (first|exact trivial|apply And.intro))) ?_
 intro i hi
 match i,hi with
 | 0,_ =>
  repeat' (first
   | refine st_nil ?_
   | rw [w1]
   | rw [n1]
   | refine aF rfl rfl rfl rfl ph_ ?_
   | refine aK rfl rfl rfl rfl ph_ ?_
   | refine sS_ rfl rfl rfl ph_ ?_
   | refine aI rfl rfl rfl rfl ph_ ?_
   | refine aD rfl rfl rfl ?_
   | refine sk0_ rfl rfl ?_
   | (refine bg rfl (fun hb=>?_) (fun hb=>?_)<;>(first|exact (fx_ hb).elim|rw [hb]))
   | refine aw_seq ?_
   | refine aw_region eY _ rfl ?_
   | refine aw_drawn2 tabS_ok _ rfl mixed (by decide +kernel) ?_
   | (refine aA rfl (fun hb=>?_) (fun hb=>?_)<;>(try exact (fx_ hb).elim))
   | refine aw_block ?_
   | refine aw_exit ?_
   | refine aw_ret ?_
   | refine aw_skip ?_)
  exact ⟨1,by omega,by omega,fm_ ⟨rfl,rfl,rfl,rfl,rfl,trivial⟩ [] rfl (by repeat' (first|exact trivial|apply And.intro)) (by repeat' (first|exact trivial|apply And.intro))⟩
 | 1,_ =>
  repeat' (first
   | refine st_nil ?_
   | rw [w2]
   | rw [n2]
   | refine aF rfl rfl rfl rfl ph_ ?_
   | refine aK rfl rfl rfl rfl ph_ ?_
   | refine sS_ rfl rfl rfl ph_ ?_
   | refine aI rfl rfl rfl rfl ph_ ?_
   | refine aD rfl rfl rfl ?_
   | refine sk0_ rfl rfl ?_
   | (refine bg rfl (fun hb=>?_) (fun hb=>?_)<;>(first|exact (fx_ hb).elim|rw [hb]))
   | refine aw_seq ?_
   | refine aw_region eY _ rfl ?_
   | refine aw_drawn2 tabS_ok _ rfl mixed (by decide +kernel) ?_
   | (refine aA rfl (fun hb=>?_) (fun hb=>?_)<;>(try exact (fx_ hb).elim))
   | refine aw_block ?_
   | refine aw_exit ?_
   | refine aw_ret ?_
   | refine aw_skip ?_)
  exact ⟨2,by omega,by omega,fm_ ⟨rfl,rfl,rfl,rfl,rfl,trivial⟩ [] rfl (by repeat' (first|exact trivial|apply And.intro)) (by repeat' (first|exact trivial|apply And.intro))⟩
 | 2,_ =>
  have hg:=KA (a.length+b.length) h0 (by omega)
  repeat' (first
   | refine st_nil ?_
   | refine aF rfl rfl rfl rfl ph_ ?_
   | refine aK rfl rfl rfl rfl ph_ ?_
   | refine sS_ rfl rfl rfl ph_ ?_
   | refine aI rfl rfl rfl rfl ph_ ?_
   | refine aD rfl rfl rfl ?_
   | refine sk0_ rfl rfl ?_
   | (refine nA [] (r' := .one (.sl 0 (33+65536) 0 0)) (L':=[.row (33+65536) [] 3]) rfl rfl rfl rfl hg rfl ⟨rfl,by simp,fun i x hx=>by simp at hx,fun x hx=>by simp at hx,l6 ⟨trivial,trivial,trivial⟩⟩ rfl rfl ?_)
   | (refine bg rfl (fun hb=>?_) (fun hb=>?_)<;>(first|exact (fx_ hb).elim|rw [hb]))
   | refine aw_seq ?_
   | refine aw_region eY _ rfl ?_
   | refine aw_drawn2 tabS_ok _ rfl mixed (by decide +kernel) ?_
   | (refine aA rfl (fun hb=>?_) (fun hb=>?_)<;>(try exact (fx_ hb).elim))
   | refine aw_block ?_
   | refine aw_exit ?_
   | refine aw_ret ?_
   | refine aw_skip ?_)
  refine nX (fun i:Nat=>[(6, .one (.sl 0 (33+65536+65536*i) 0 (Aa a b i))),(25, .one (.c (.lst [[sP a],[sP b]]))),(26, .one (.c (.int .i64 2))),(27, .one (.c (.int .i64 i)))]) (fun i=>[.row (33+65536+65536*i) (((Mo a b i).map cV).map (List.map SV.c)) 3]) (fun i=>i<=2) (fun i=>2-i) 0 (by omega) (fun _ _=>Vx _)
   (fm_ ⟨BJ rfl (by omega),rfl,rfl,rfl,trivial⟩ [] (ES rfl (by omega)) ⟨Nat.zero_lt_one,trivial,trivial,trivial,trivial⟩ ⟨pK _ _ _ _ _,trivial⟩) ?_
  intro i hi
  match i,hi with
  | 0,_ =>
   repeat' (first
    | refine st_nil ?_
    | (refine gJ rfl rfl rfl rfl rfl (iH eY (k:=3) (by_:=32) (xs:=(a.map cV).map (List.map SV.c)) rfl rfl rfl rfl ⟨rfl,_,rfl,Du _⟩ rfl (by omega) rfl rfl rfl (by decide) (by simp [Mo,Aa]) (by rw [Vo,Vo];simp only [Aa];omega) (by rw [Vo,Vo];simp only [Aa];omega)) ?_)
    | refine aF rfl rfl rfl rfl ph_ ?_
    | refine aK rfl rfl rfl rfl ph_ ?_
    | refine sS_ rfl rfl rfl ph_ ?_
    | refine aI rfl rfl rfl rfl ph_ ?_
    | refine aD rfl rfl rfl ?_
    | refine sk0_ rfl rfl ?_
    | (refine bg rfl (fun hb=>?_) (fun hb=>?_)<;>(first|exact (fx_ hb).elim|rw [hb]))
    | refine aw_seq ?_
    | refine aw_region eY _ rfl ?_
    | refine aw_drawn2 tabS_ok _ rfl mixed (by decide +kernel) ?_
    | (refine aA rfl (fun hb=>?_) (fun hb=>?_)<;>(try exact (fx_ hb).elim))
    | refine aw_block ?_
    | refine aw_exit ?_
    | refine aw_ret ?_
    | refine aw_skip ?_)
   exact ⟨1,by omega,by omega,fm_ ⟨BJ (by simp [Aa]) (by omega),rfl,rfl,rfl,trivial⟩ [] (ES (by simp [Mo]) (by omega)) ⟨Nat.zero_lt_one,trivial,trivial,trivial,trivial⟩ ⟨pK _ _ _ _ _,trivial⟩⟩
  | 1,_ =>
   repeat' (first
    | refine st_nil ?_
    | (refine gJ rfl rfl rfl rfl rfl (iH eY (k:=3) (by_:=32) (xs:=(b.map cV).map (List.map SV.c)) rfl rfl rfl rfl ⟨rfl,_,rfl,Du _⟩ rfl (by omega) rfl rfl rfl (by decide) (by simp [Mo,Aa]) (by rw [Vo,Vo];simp only [Aa];omega) (by rw [Vo,Vo];simp only [Aa];omega)) ?_)
    | refine aF rfl rfl rfl rfl ph_ ?_
    | refine aK rfl rfl rfl rfl ph_ ?_
    | refine sS_ rfl rfl rfl ph_ ?_
    | refine aI rfl rfl rfl rfl ph_ ?_
    | refine aD rfl rfl rfl ?_
    | refine sk0_ rfl rfl ?_
    | (refine bg rfl (fun hb=>?_) (fun hb=>?_)<;>(first|exact (fx_ hb).elim|rw [hb]))
    | refine aw_seq ?_
    | refine aw_region eY _ rfl ?_
    | refine aw_drawn2 tabS_ok _ rfl mixed (by decide +kernel) ?_
    | (refine aA rfl (fun hb=>?_) (fun hb=>?_)<;>(try exact (fx_ hb).elim))
    | refine aw_block ?_
    | refine aw_exit ?_
    | refine aw_ret ?_
    | refine aw_skip ?_)
   exact ⟨2,by omega,by omega,fm_ ⟨BJ (by simp [Aa]) (by omega),rfl,rfl,rfl,trivial⟩ [] (ES (by simp [Mo]) (by omega)) ⟨Nat.zero_lt_one,trivial,trivial,trivial,trivial⟩ ⟨pK _ _ _ _ _,trivial⟩⟩
  | 2,_ =>
   refine pG 0 6 (cs:=(a++b).map cV) rfl (rW _) rfl (by rw [Vo,Vk];rfl) ?_
   repeat' (first
    | refine st_nil ?_
    | refine aF rfl rfl rfl rfl ph_ ?_
    | refine aK rfl rfl rfl rfl ph_ ?_
    | refine sS_ rfl rfl rfl ph_ ?_
    | refine aI rfl rfl rfl rfl ph_ ?_
    | refine aD rfl rfl rfl ?_
    | refine sk0_ rfl rfl ?_
    | (refine bg rfl (fun hb=>?_) (fun hb=>?_)<;>(first|exact (fx_ hb).elim|rw [hb]))
    | refine aw_seq ?_
    | refine aw_region eY _ rfl ?_
    | refine aw_drawn2 tabS_ok _ rfl mixed (by decide +kernel) ?_
    | (refine aA rfl (fun hb=>?_) (fun hb=>?_)<;>(try exact (fx_ hb).elim))
    | refine aw_block ?_
    | refine aw_exit ?_
    | refine aw_ret ?_
    | refine aw_skip ?_)
   exact aQ (bf rfl (by trivial) rfl)
end Go.Proofs.YtlcceppoloaecaaGreatDoor
