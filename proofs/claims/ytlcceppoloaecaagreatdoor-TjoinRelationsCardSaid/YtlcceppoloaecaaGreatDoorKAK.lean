/- Parts of the proof, joined. No condition. -/
import Derived.Test.YtlcceppoloaecaaGreatDoorKAA
import Derived.Test.YtlcceppoloaecaaGreatDoorKAI
set_option linter.unusedSimpArgs false
set_option linter.unusedVariables false
namespace Go.Proofs.YtlcceppoloaecaaGreatDoor
open Go.RowKit Go.MapKept
set_option maxRecDepth 100000
set_option maxHeartbeats 8000000
abbrev ay (p:bD):Bool:=decide (0<=p.lo)&&decide (p.lo<p.hi)&&decide (p.hi<=1099511627776)
theorem nP (p:bD):MC p=some (ay p):=by
 unfold MC ay
 cases h1:decide (0<=p.lo)<;>cases h2:decide (p.lo<p.hi)<;>cases h3:decide (p.hi<=1099511627776)<;>simp_all
def fV {α:Type} (q:α->Bool):List α->Nat->List Int
 | [],_=>[]
 | y::b,k=>(bif q y then [(k:Int)] else [])++fV q b (k+1)
def lS {α:Type} (q:α->Bool) (i:Int) (b:List α) (k:Nat):List bA:=(fV q b k).map fun j=>⟨i,j⟩
def cO {α:Type} (q:α->α->Bool) (b:List α):List α->Nat->List bA
 | [],_=>[]
 | x::a,i=>lS (q x) (i:Int) b 0++cO q b a (i+1)
theorem vC {α:Type} (q:α->Bool) : ∀ (b:List α) (k:Nat) (j:Int),j∈fV q b k->(k:Int)<=j/\j<((k+b.length:Nat):Int)
 | [],_,_,h=>by cases h
 | y::b,k,j,h=>by
  rw [fV,VE] at h
  rcases h with h|h
  ·cases hq:q y with
   | false=>rw [hq] at h;cases h
   | true=>rw [hq,Ve,List.mem_singleton] at h;subst h;simp;omega
  ·have:=vC q b (k+1) j h
   simp only [Vy];omega
theorem xg {α:Type} (q:α->Bool) : ∀ (b:List α) (k:Nat),(fV q b k).Pairwise (· < ·)
 | [],_=>List.Pairwise.nil
 | y::b,k=>by
  rw [fV]
  cases q y with
  | false=>exact xg q b (k+1)
  | true =>
   rw [Ve,List.singleton_append,List.pairwise_cons]
   exact ⟨fun j hj=>by have:=(vC q b (k+1) j hj).1;omega,xg q b (k+1)⟩
theorem wG {α:Type} (q:α->Bool) : ∀ (b:List α) (k:Nat),(fV q b k).length=b.countP q
 | [],_=>rfl
 | y::b,k=>by
  rw [fV,Vk,wG q b (k+1),List.countP_cons]
  cases q y<;>simp<;>omega
theorem qP {α:Type} (q:α->Bool) (b:List α) (k:Nat):(fV q b k).length<=b.length:=by rw [wG];exact List.countP_le_length
theorem uR {α:Type} (q r:α->Bool) (p:Int->Bool) (b0:List α) : ∀ (b pre:List α),b0=pre++b->(∀ (j:Nat) y,b0[j]?=some y->p (j:Int)=r y)->(fV q b pre.length).filter p=fV (fun y=>q y&&r y) b pre.length
 | [],_,_,_=>rfl
 | y::b,pre,e,hp=>by
  rw [fV,fV,List.filter_append]
  have h1:=uR q r p b0 b (pre++[y]) (by rw [e];simp) hp
  rw [Vk,List.length_singleton] at h1
  rw [h1]
  congr 1
  have hy:b0[pre.length]?=some y:=by rw [e,Vj (Vs _),Nat.sub_self];rfl
  cases hq:q y with
  | false=>simp
  | true=>rw [Ve,List.filter_cons,List.filter_nil,hp _ y hy,Bool.true_and];cases r y<;>rfl
theorem DL : ∀ {l m:List Int}, l.Pairwise (fun x y => ¬ y<x)->m.Pairwise (· < ·)->l.Perm m->l=m
 | [],m,_,_,h=>(List.nil_perm.1 h).symm▸rfl
 | x::l,[],_,_,h=>absurd h.length_eq (by simp)
 | x::l,y::m,hl,hm,h=>by
  rw [List.pairwise_cons] at hl hm
  have hxy:x=y:=by
   rcases Vt.1 (h.mem_iff.1 (VU ..)) with e|e
   ·exact e
   ·rcases Vt.1 (h.mem_iff.2 (VU ..)) with e'|e'
    ·exact e'.symm
    ·exact absurd (hm.1 x e) (hl.1 y e')
  subst hxy
  rw [DL hl.2 hm.2 (List.Perm.cons_inv h)]
theorem ry (lo:Int->Int) (t:Int) : ∀ {l:List Int}, l.Pairwise (fun x y => ¬ lo y<lo x)->l.takeWhile (fun k=>decide (lo k<t))=l.filter fun k=>decide (lo k<t)
 | [],_=>rfl
 | x::l,h=>by
  rw [List.pairwise_cons] at h
  rw [List.takeWhile_cons,List.filter_cons]
  by_cases hx:lo x<t
  ·rw [if_pos (Vg hx),if_pos (Vg hx),ry lo t h.2]
  ·rw [if_neg (by simp [hx]),if_neg (by simp [hx])]
   symm
   rw [List.filter_eq_nil_iff]
   intro y hy
   have:=h.1 y hy
   simp;omega
def yK (p q:bD):Bool:=(ay p&&ay q)&&(decide (p.lo<q.hi)&&decide (q.lo<p.hi))
def dV (b:List aV) (k:Int):bD:=match b[k.toNat]? with
 | some y=>y.valid
 | none=>⟨0,0⟩
def Gp (b:List aV) (ord:List Int) (f:bD):List Int:=(ord.takeWhile fun k=>decide ((dV b k).lo<f.hi)).filter fun k=>decide (f.lo<(dV b k).hi)
theorem I6 {b:List aV} {ord:List Int} (hp:ord.Perm (fV (fun y=>ay y.valid) b 0)) (hs:ord.Pairwise fun x y => ¬ (dV b y).lo<(dV b x).lo) {f:bD} (hf:ay f=true) :
  (Gp b ord f).Perm (fV (fun y=>yK f y.valid) b 0):=by
 unfold Gp
 rw [ry (fun k=>(dV b k).lo) f.hi hs,List.filter_filter]
 have h1:=uR (fun y:aV=>ay y.valid) (fun y=>decide (f.lo<y.valid.hi)&&decide (y.valid.lo<f.hi)) (fun k=>decide (f.lo<(dV b k).hi)&&decide ((dV b k).lo<f.hi)) b b [] rfl
  (fun j y hy=>by unfold dV;rw [Int.toNat_natCast,hy])
 refine (hp.filter _).trans ?_
 rw [List.length_nil] at h1
 rw [h1]
 have:(fun y:aV=>ay y.valid&&(decide (f.lo<y.valid.hi)&&decide (y.valid.lo<f.hi)))=fun y=>yK f y.valid:=by
  funext y
  unfold yK
  rw [hf,Bool.true_and]
 rw [this]
theorem I9 {i:Int} {ks m:List Int} {r:List bA} (h1:r.Perm (ks.map fun j=>(⟨i,j⟩:bA))) (h2:r.Pairwise fun x y => ¬ y.b<x.b) (h3:ks.Perm m) (h4:m.Pairwise (· < ·)):r=m.map fun j=>⟨i,j⟩:=by
 have e1:r=(r.map bA.b).map fun j=>(⟨i,j⟩:bA):=by
  rw [List.map_map]
  conv=>lhs;rw [<- List.map_id r]
  refine List.map_congr_left fun x hx=>?_
  obtain ⟨j,_,rfl⟩:=VK.1 (h1.mem_iff.1 hx)
  rfl
 have e2:r.map bA.b=m:=by
  refine DL ?_ h4 ?_
  ·rw [List.pairwise_map];exact h2
  ·have:=h1.map bA.b
   rw [List.map_map] at this
   exact (this.trans (by rw [show (bA.b∘fun j:Int=>(⟨i,j⟩:bA))=id from rfl,List.map_id])).trans h3
 rw [e1,e2]
set_option maxHeartbeats 8000000
set_option maxHeartbeats 8000000
set_option maxHeartbeats 8000000
set_option maxHeartbeats 8000000
set_option maxHeartbeats 8000000
set_option maxHeartbeats 8000000
end Go.Proofs.YtlcceppoloaecaaGreatDoor
