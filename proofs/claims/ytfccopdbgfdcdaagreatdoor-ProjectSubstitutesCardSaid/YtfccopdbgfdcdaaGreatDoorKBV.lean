/- Parts of the proof, joined. No condition. -/
import Derived.Test.YtfccopdbgfdcdaaGreatDoorKAA
import Derived.Test.YtfccopdbgfdcdaaGreatDoorKBP
import Derived.Test.YtfccopdbgfdcdaaGreatDoorKBU
import Derived.Test.YtfccopdbgfdcdaaGreatDoorKBQ
import Derived.Test.YtfccopdbgfdcdaaGreatDoorKBN
import Derived.Test.YtfccopdbgfdcdaaGreatDoorKBO
import Derived.Test.YtfccopdbgfdcdaaGreatDoorKAL
import Derived.Test.YtfccopdbgfdcdaaGreatDoorKBI
set_option linter.unusedSimpArgs false
set_option linter.unusedVariables false
namespace Go.Proofs.YtfccopdbgfdcdaaGreatDoor
open Go.RowKit
def cB (p:aW) (t:Int):Bool:=St.aV (toP p) t
theorem o8 (p:aW) (t:Int):cB p t=(St.aH (toP p)&&(decide (p.lo<=t)&&decide (t<p.hi))):=Bool.and_assoc _ _ _
def dH (ps:List aW) (t:Int):Nat:=(ps.filter fun p=>cB p t).length
theorem Fv (ps:List aW) (t:Int):St.cnt (ps.map toP) t=(dH ps t:Int):=by
 unfold St.cnt dH
 induction ps with
 | nil=>rfl
 | cons p ps ih =>
  rw [adT,adT,List.sum_cons,ih,List.filter_cons]
  unfold cB
  by_cases h:St.aV (toP p) t=true
  ·rw [if_pos h,if_pos h,ad5];omega
  ·rw [if_neg h,if_neg h];omega
theorem fu (p:aW) (ps:List aW) (t:Int):dH (p::ps) t=(if cB p t=true then 1 else 0)+dH ps t:=by
 unfold dH
 rw [List.filter_cons]
 split<;>simp<;>omega
theorem QH {p:aW} {t:Int} (h:cB p t=true):0<=t/\t<1099511627776:=by
 unfold cB St.aV St.aH at h
 simp only [ad1,decide_eq_true_eq] at h
 omega
theorem F4 {t:Int} (h : ¬(0<=t/\t<1099511627776)) (ps:List aW):dH ps t=0:=by
 unfold dH
 rw [List.length_eq_zero_iff,List.filter_eq_nil_iff]
 exact fun p _ hp=>h (QH hp)
theorem TE (ps:List aW) (t:Int):dH ps t<=ps.length:=List.length_filter_le _ _
def eO (ps:List aW):List (Int × Int):=St.NJ ((ones ps).map toC)
theorem Nu (ps:List aW):(ones ps).map toC=St.El (ps.map toP):=by
 unfold ones St.El
 rw [List.map_map,List.map_map];rfl
theorem TH (ps:List aW):(bO ps).map toP=St.tC (eO ps):=by
 unfold bO DY zL eO
 rw [List.map_map,List.map_map]
 have e1:(toP∘ofP)=id:=by funext x;rfl
 have e2:(toS∘ofS)=id:=by funext x;rfl
 rw [e1,e2,List.map_id,List.map_id]
theorem jP (ps:List aW):St.dx (eO ps)=true:=(St.of_ok _).1
theorem Ll (ps:List aW) (hn:ps.length<=300) (t:Int):St.u_ (eO ps) t=(dH ps t:Int):=by
 by_cases h:0<=t/\t<1099511627776
 ·rw [show eO ps=St.di (St.nk ((ones ps).map toC)) (St.gm ((ones ps).map toC)) from rfl,(St.of_ok _).2 t h.1 h.2,St.sK t (xM ps) (by simp [ones];omega),Nu,St.ul,Fv]
 ·rw [St.Zv h,F4 h];rfl
theorem qG (ps:List aW) (hn:ps.length<=300) (t:Int):0<=St.u_ (eO ps) t/\St.u_ (eO ps) t<=600:=by
 have:=Ll ps hn t
 have:=TE ps t
 omega
theorem Cc (ps:List aW) (hn:ps.length<=300) (t:Int):dH (bO ps) t=dH ps t:=by
 by_cases h:0<=t/\t<1099511627776
 ·have h1:=Fv (bO ps) t
  rw [TH,St.Pj (jP ps) t h.1 h.2 (qG ps hn t).1 (qG ps hn t).2,Ll ps hn] at h1
  omega
 ·rw [F4 h,F4 h]
def EW (ps:List aW) (x:Int):Nat:=(ps.filter fun p=>St.aH (toP p)&&decide (p.lo<=x)).length
theorem sJ (p:aW) (ps:List aW) (t:Int):EW (p::ps) t=(if (St.aH (toP p)&&decide (p.lo<=t))=true then 1 else 0)+EW ps t:=by
 unfold EW
 rw [List.filter_cons]
 split<;>simp<;>omega
theorem OB {x y:Int} (h:x<y) : ∀ ps:List aW,dH ps y+EW ps x<=dH ps x+EW ps y
 | []=>by simp [dH,EW]
 | p::ps=>by
  have ih:=OB h ps
  rw [fu,fu,sJ,sJ]
  have:(if cB p y=true then 1 else 0)+(if (St.aH (toP p)&&decide (p.lo<=x))=true then 1 else 0)<=(if cB p x=true then 1 else 0)+(if (St.aH (toP p)&&decide (p.lo<=y))=true then 1 else 0):=by
   rw [o8,o8]
   cases hv:St.aH (toP p)
   ·simp
   ·simp only [aef,ad1,decide_eq_true_eq]
    split<;>split<;>split<;>split<;>omega
  omega
theorem ZL (ps:List aW) (x:Int):dH ps x<=EW ps x:=by
 induction ps with
 | nil=>simp [dH,EW]
 | cons p ps ih =>
  rw [fu,sJ]
  have:(if cB p x=true then 1 else 0)<=(if (St.aH (toP p)&&decide (p.lo<=x))=true then 1 else 0):=by
   rw [o8]
   cases hv:St.aH (toP p)
   ·simp
   ·simp only [aef,ad1,decide_eq_true_eq]
    split<;>split<;>omega
  omega
theorem Xu {x y:Int} (h:x<=y) (ps:List aW):EW ps x<=EW ps y:=by
 induction ps with
 | nil=>simp [EW]
 | cons p ps ih =>
  rw [sJ,sJ]
  have:(if (St.aH (toP p)&&decide (p.lo<=x))=true then 1 else 0)<=(if (St.aH (toP p)&&decide (p.lo<=y))=true then 1 else 0):=by
   cases hv:St.aH (toP p)
   ·simp
   ·simp only [aef,decide_eq_true_eq]
    split<;>split<;>omega
  omega
theorem K6 {l:List (Int × Int)} (ps:List aW) (ha:St.Asc l) (hF : ∀ s∈l,0<=s.1/\s.1<1099511627776) (hy : ∀ s∈l,s.2=(dH ps s.1:Int)) : ∀ k,k<=l.length ->
  (∀ q∈(St.mM l k).2,St.aH q=true)/\(∀ f∈(St.mM l k).1,0<=f/\f<1099511627776 /\ ∃ (j:Nat) (y:Int),j<k/\l[j]?=some (f,y)) /\
  ((k=0/\(St.mM l k).1=[]/\(St.mM l k).2=[]) \/ ∃ x y,l[k-1]?=some (x,y)/\0<k/\(St.mM l k).1.length=dH ps x/\(St.mM l k).2.length+(St.mM l k).1.length<=EW ps x)
 | 0,_=>⟨fun q hq=>(by cases hq),fun f hf=>(by cases hf), .inl ⟨rfl,rfl,rfl⟩⟩
 | k+1,hk=>by
  obtain ⟨h1,h2,h3⟩:=K6 ps ha hF hy k (by omega)
  have hx:l[k]?=some (l[k]'(by omega)):=adR (by omega)
  generalize l[k]'(by omega)=p at hx
  obtain ⟨x,y⟩:=p
  have hm:=adO hx
  have hxF:=hF _ hm
  have hxy:y=(dH ps x:Int):=hy _ hm
  rw [St.tL hx]
  have hc:St.pF y=dH ps x:=by
   unfold St.pF
   rw [hxy]
   split<;>omega
  unfold St.B_
  dsimp only
  rw [hc]
  refine ⟨fun q hq=>?_,fun f hf=>?_, .inr ⟨x,y,by simpa using hx,by omega,St.tN _ _ _,?_⟩⟩
  ·rcases ad'.1 hq with hq|hq
   ·exact h1 q hq
   ·obtain ⟨f,hf,rfl⟩:=aeh.1 hq
    obtain ⟨f1,f2,j,z,hj,hz⟩:=h2 f (List.mem_of_mem_drop hf)
    have:=ha j k _ _ hj hz hx
    show St.aH (f,x)=true
    unfold St.aH
    simp only [ad1,decide_eq_true_eq]
    dsimp only at this hxF
    omega
  ·unfold St.BL at hf
   rcases ad'.1 hf with hf|hf
   ·obtain ⟨f1,f2,j,z,hj,hz⟩:=h2 f (aeD hf)
    exact ⟨f1,f2,j,z,by omega,hz⟩
   ·obtain ⟨_,rfl⟩:=List.mem_replicate.1 hf
    exact ⟨hxF.1,hxF.2,k,y,by omega,hx⟩
  ·rw [St.tN,adQ,adU,List.length_drop]
   rcases h3 with ⟨_,e1,e2⟩|⟨x0,y0,hx0,hk0,e1,e2⟩
   ·rw [e1,e2]
    have:=ZL ps x
    simp only [aec]
    omega
   ·have hlt:=ha (k-1) k _ _ (by omega) hx0 hx
    dsimp only at hlt
    have b1:=OB hlt ps
    have b2:=Xu (Int.le_of_lt hlt) ps
    omega
theorem G6 (ps:List aW) (hn:ps.length<=300):(St.Ng (eO ps)).length<=ps.length /\ ∀ q∈St.Ng (eO ps),St.aH q=true:=by
 obtain ⟨ha,hF,hne,_⟩:=St.gN (jP ps)
 have hnn:=St.rH (jP ps)
 have hy : ∀ s∈eO ps,s.2=(dH ps s.1:Int):=by
  intro s hs
  have h:=((St.I8 ((ones ps).map toC)).2 s hs).2
  rw [h,St.sK s.1 (xM ps) (by simp [ones];omega),Nu,St.ul,Fv]
 obtain ⟨h1,h2,h3⟩:=K6 ps ha (fun s hs=>⟨hnn s hs,hF s hs⟩) hy (eO ps).length (adY _)
 unfold St.Ng
 refine ⟨?_,fun q hq=>?_⟩
 ·rw [adQ,adU]
  rcases h3 with ⟨_,e1,e2⟩|⟨x,y,_,_,_,e2⟩
  ·rw [e1,e2];exact ad4 _
  ·exact Nat.le_trans e2 (List.length_filter_le _ _)
 ·rcases ad'.1 hq with hq|hq
  ·exact h1 q hq
  ·obtain ⟨f,hf,rfl⟩:=aeh.1 hq
   obtain ⟨f1,f2,_⟩:=h2 f hf
   show St.aH (f,1099511627776)=true
   unfold St.aH
   simp only [ad1,decide_eq_true_eq]
   omega
theorem Ch (ps:List aW) (hn:ps.length<=300):((bO ps).map toP).Perm (St.Ng (eO ps)):=by
 obtain ⟨ha,hF,_,_⟩:=St.gN (jP ps)
 have hM : ∀ s∈eO ps,s.2<=600:=by
  intro s hs
  have h:=((St.I8 ((ones ps).map toC)).2 s hs).2
  rw [h,St.sK s.1 (xM ps) (by simp [ones];omega),Nu,St.ul,Fv]
  have:=TE ps s.1
  omega
 rw [TH]
 have h0:=(St.oo (St.j_ (eO ps)) [] .nil).2
 rw [adN] at h0
 exact h0.trans (St.KZ ha hF hM).symm
theorem TA (ps:List aW) (hn:ps.length<=300):(bO ps).length<=ps.length:=by
 have:=(Ch ps hn).length_eq
 rw [adU] at this
 rw [this];exact (G6 ps hn).1
theorem jU (ps:List aW) (hn:ps.length<=300) : ∀ p∈bO ps,St.aH (toP p)=true:=fun p hp =>
 (G6 ps hn).2 _ ((Ch ps hn).subset (List.mem_map_of_mem hp))
open Go.RowKit Go.MapKept
set_option maxRecDepth 100000
theorem NW {r:List Val} {R:List (List Val)} (h:K5 (r::R)):r∉R:=by
 intro hr
 have:=List.rel_of_pairwise_cons h hr
 rw [tCr_.refl] at this
 omega
theorem UT (s t:List aG) (r:List Val):bn (s++t) r=bn s r++bn t r:=by unfold bn;rw [List.filter_append,adV]
theorem Gj (r:List Val) : ∀ ps:List aW,(∀ p∈ps,St.aH (toP p)=true)->bn (ps.map fun p=>(⟨r,p⟩:aG)) r=ps
 | [],_=>rfl
 | p::ps,h=>by
  have ih:=Gj r ps fun q hq=>h q (ad7 _ hq)
  have hp:aM p=true:=h p (aet ..)
  unfold bn at ih ⊢
  rw [adT,List.filter_cons_of_pos (by simp [hp]),adT,ih]
theorem Oa {r x:List Val} (hx:x≠r) (ps:List aW):bn (ps.map fun p=>(⟨x,p⟩:aG)) r=[]:=by
 unfold bn
 rw [List.map_eq_nil_iff,List.filter_eq_nil_iff]
 intro f hf h
 obtain ⟨p,_,rfl⟩:=aeh.1 hf
 simp only [ad1,decide_eq_true_eq] at h
 exact hx h.2
theorem z8 (L:List Val->List aW) (hL : ∀ r, ∀ p∈L r,St.aH (toP p)=true) : ∀ (R:List (List Val)),K5 R -> ∀ r,bn (R.flatMap fun r=>(L r).map fun p=>(⟨r,p⟩:aG)) r=if r∈R then L r else []
 | [],_,r=>rfl
 | x::R,h,r=>by
  have ih:=z8 L hL R (List.Pairwise.of_cons h) r
  rw [aej,UT,ih]
  by_cases hx:x=r
  ·subst hx
   rw [Gj x _ (hL x),if_neg (NW h),if_pos (aet ..),aeg]
  ·rw [Oa hx,adN]
   by_cases hr:r∈R
   ·rw [if_pos hr,if_pos (ad7 _ hr)]
   ·rw [if_neg hr,if_neg (by intro h;rcases adZ.1 h with h|h;exact hx h.symm;exact hr h)]
theorem FX {α:Type} (p:α->Bool) : ∀ l:List α,(l.filter p).length+(l.filter fun x => !p x).length=l.length
 | []=>rfl
 | x::l=>by
  have:=FX p l
  rw [List.filter_cons,List.filter_cons]
  cases h:p x<;>simp<;>omega
theorem WI (l:List aG) (r:List Val):(bn l r).length<=(l.filter fun f=>decide (f.row=r)).length:=by
 unfold bn
 rw [adU]
 induction l with
 | nil=>exact adY _
 | cons f l ih =>
  rw [List.filter_cons,List.filter_cons]
  cases aM f.valid<;>cases decide (f.row=r)<;>simp<;>omega
theorem Ro {r x:List Val} (h:x≠r) (l:List aG):bn l x=bn (l.filter fun f => !decide (f.row=r)) x:=by
 unfold bn
 rw [List.filter_filter]
 congr 1
 apply List.filter_congr
 intro f _
 by_cases hx:f.row=x
 ·have:f.row≠r:=fun e=>h (hx.symm.trans e)
  simp [hx,h]
 ·simp [hx]
theorem LD : ∀ (R:List (List Val)) (l:List aG),K5 R->(R.flatMap fun r=>bn l r).length<=l.length
 | [],l,_=>ad4 _
 | r::R,l,h=>by
  rw [aej,adQ]
  have e:(R.flatMap fun x=>bn l x)=R.flatMap fun x=>bn (l.filter fun f => !decide (f.row=r)) x:=by
   rw [List.flatMap_def,List.flatMap_def]
   congr 1
   refine List.map_congr_left fun x hx=>Ro ?_ l
   rintro rfl
   exact NW h hx
  rw [e]
  have h1:=LD R (l.filter fun f => !decide (f.row=r)) (List.Pairwise.of_cons h)
  have h2:=WI l r
  have h3:=FX (fun f:aG=>decide (f.row=r)) l
  omega
theorem fC {α β γ:Type} (f:α->List β) (g:α->List γ) : ∀ l:List α,(∀ x∈l,(f x).length<=(g x).length)->(l.flatMap f).length<=(l.flatMap g).length
 | [],_=>adY _
 | x::l,h=>by
  rw [aej,aej,adQ,adQ]
  have:=h x (aet ..)
  have:=fC f g l fun y hy=>h y (ad7 _ hy)
  omega
theorem fQ (l:List aG) (r:List Val):(bn l r).length<=l.length:=by
 unfold bn;rw [adU];exact List.length_filter_le _ _
theorem TS {l:List aG} {R:List (List Val)} (h:eZ l R) {r:List Val} (hr:r∉R):bn l r=[]:=by
 unfold bn
 rw [List.map_eq_nil_iff,List.filter_eq_nil_iff]
 intro f hf hc
 rw [ad1] at hc
 exact hr ((h.2 r).2 ⟨f,hf,hc.1,aea hc.2⟩)
section
variable {l:List aG} {R:List (List Val)} (h:eZ l R) (hn:l.length<=300)
include h hn
theorem YV:(eQ l R).length<=l.length:=by
 refine Nat.le_trans ?_ (LD R l h.1)
 refine fC _ _ _ fun r _=>?_
 rw [adU]
 exact TA _ (Nat.le_trans (fQ l r) hn)
theorem SL (r:List Val):bn (eQ l R) r=if r∈R then bO (bn l r) else [] :=
 z8 (fun r=>bO (bn l r)) (fun r p hp=>jU _ (Nat.le_trans (fQ l r) hn) p hp) R h.1 r
end
def aX (l:List aG) (t:Int):List (List Val):=(l.filter fun f=>cB f.valid t).map (·.row)
theorem xW (t:Int) (r:List Val) : ∀ l:List aG,(aX l t).count r=dH (bn l r) t
 | []=>rfl
 | f::l=>by
  have ih:=xW t r l
  unfold aX at ih ⊢
  have e:bn (f::l) r=(if (aM f.valid&&decide (f.row=r))=true then [f.valid] else [])++bn l r:=by
   unfold bn
   rw [List.filter_cons]
   split<;>simp
  rw [List.filter_cons,e]
  by_cases hc:cB f.valid t=true
  ·have hv:aM f.valid=true:=by
    have:=hc
    rw [o8,ad1] at this
    exact this.1
   rw [if_pos hc,adT,List.count_cons,ih]
   by_cases hr:f.row=r
   ·simp only [hv,hr,decide_true,Bool.and_self,if_true,List.cons_append,adN,beq_self_eq_true]
    rw [fu,if_pos hc];omega
   ·simp [hr]
  ·rw [if_neg hc,ih]
   split
   ·rw [List.cons_append,adN,fu,if_neg hc,aeo]
   ·rfl
theorem abe {l:List aG} {R:List (List Val)} (h:eZ l R) (hn:l.length<=300) (t:Int):(aX (eQ l R) t).Perm (aX l t):=by
 rw [List.perm_iff_count]
 intro r
 rw [xW,xW,SL h hn r]
 split
 ·exact Cc _ (Nat.le_trans (fQ l r) hn) t
 ·rename_i hr
  rw [TS h hr]
def Apart (p q:aW):Prop:=p.hi<q.lo\/q.hi<p.lo\/(p.lo<=q.lo/\q.hi<=p.hi)\/(q.lo<=p.lo/\p.hi<=q.hi)
def Lam (L:List aW):Prop := ∀ p∈L, ∀ q∈L,Apart p q
def wG (p:aW):Prop:=0<=p.lo/\p.lo<p.hi/\p.hi<=1099511627776
theorem DX (p:aW):St.aH (toP p)=true↔wG p:=by
 unfold St.aH wG toP
 simp only [ad1,decide_eq_true_eq]
 omega
theorem dO {p:aW} (h:wG p) (t:Int):cB p t=true↔p.lo<=t/\t<p.hi:=by
 rw [o8,(DX p).2 h,aef,ad1,decide_eq_true_eq,decide_eq_true_eq]
theorem cnt_mono {s t:Int} : ∀ L:List aW,(∀ p∈L,cB p s=true->cB p t=true)->dH L s<=dH L t
 | [],_=>adY _
 | p::L,h=>by
  have ih:=cnt_mono L fun q hq=>h q (ad7 _ hq)
  have h0:=h p (aet ..)
  rw [fu,fu]
  by_cases hs:cB p s=true
  ·rw [if_pos hs,if_pos (h0 hs)];omega
  ·rw [if_neg hs];omega
theorem tu (A B:List aW) (t:Int):dH (A++B) t=dH A t+dH B t:=by
 unfold dH;rw [List.filter_append,adQ]
theorem cnt_lt {s t:Int} {L:List aW} (h : ∀ p∈L,cB p s=true->cB p t=true) {q:aW} (hq:q∈L) (h1:cB q t=true) (h2:cB q s=false):dH L s<dH L t:=by
 obtain ⟨A,B,rfl⟩:=List.append_of_mem hq
 have hA:=cnt_mono A fun p hp=>h p (by simp [hp])
 have hB:=cnt_mono B fun p hp=>h p (by simp [hp])
 rw [tu,tu,fu,fu,if_pos h1,if_neg (by rw [h2];decide)]
 omega
theorem X_ {s t:Int} {L:List aW} (h:dH L s<dH L t) : ∃ q∈L,cB q t=true/\cB q s=false:=by
 apply Classical.byContradiction
 intro hn
 have:=cnt_mono (s:=t) (t:=s) L fun p hp h1=>by
  cases h2:cB p s
  ·exact absurd ⟨p,hp,h1,h2⟩ hn
  ·rfl
 omega
theorem X6 : ∀ L:List aW,L≠[] -> ∃ p∈L, ∀ q∈L,p.hi-p.lo<=q.hi-q.lo
 | [],h=>absurd rfl h
 | p::L,_=>by
  by_cases hL:L=[]
  ·subst hL
   exact ⟨p,aet .., fun q hq=>by simp at hq;subst hq;omega⟩
  ·obtain ⟨m,hm,h⟩:=X6 L hL
   by_cases hpm:p.hi-p.lo<=m.hi-m.lo
   ·exact ⟨p,aet .., fun q hq=>by
     rcases adZ.1 hq with rfl|hq
     ·omega
     ·have:=h q hq;omega⟩
   ·exact ⟨m,ad7 _ hm,fun q hq=>by
     rcases adZ.1 hq with rfl|hq
     ·omega
     ·exact h q hq⟩
theorem Mc {p q:aW} (h1:p.lo=q.lo) (h2:p.hi=q.hi):p=q:=by
 cases p;cases q;simp_all
theorem falls {M:List aW} (hM:Lam M) (vM : ∀ p∈M,wG p) {q:aW} (hq:q∈M):dH M q.hi<dH M (q.hi-1):=by
 have vq:=vM q hq
 unfold wG at vq
 refine cnt_lt (fun s hs h=>?_) hq ((dO (vM q hq) _).2 (by omega)) ?_
 ·have vs:=vM s hs
  have ha:=hM q hq s hs
  rw [dO vs] at h ⊢
  unfold wG at vs
  unfold Apart at ha
  omega
 ·cases h:cB q q.hi
  ·rfl
  ·have:=(dO (vM q hq) _).1 h
   omega
theorem rises {M:List aW} (hM:Lam M) (vM : ∀ p∈M,wG p) {q:aW} (hq:q∈M):dH M (q.lo-1)<dH M q.lo:=by
 have vq:=vM q hq
 unfold wG at vq
 refine cnt_lt (fun s hs h=>?_) hq ((dO (vM q hq) _).2 (by omega)) ?_
 ·have vs:=vM s hs
  have ha:=hM q hq s hs
  rw [dO vs] at h ⊢
  unfold wG at vs
  unfold Apart at ha
  omega
 ·cases h:cB q (q.lo-1)
  ·rfl
  ·have:=(dO (vM q hq) _).1 h
   omega
theorem FZ : ∀ (n:Nat) (L M:List aW),L.length=n->Lam L->Lam M->(∀ p∈L,wG p)->(∀ p∈M,wG p)->(∀ t,dH L t=dH M t)->L.Perm M
 | 0,L,M,hn,_,_,_,vM,hc=>by
  obtain rfl:=List.length_eq_zero_iff.1 hn
  cases M with
  | nil=>exact .nil
  | cons q M =>
   have vq:=vM q (aet ..)
   have h:=hc q.lo
   rw [fu,if_pos ((dO vq _).2 (by unfold wG at vq;omega))] at h
   simp [dH] at h
   omega
 | n+1,L,M,hn,hL,hM,vL,vM,hc=>by
  obtain ⟨p,hp,hmin⟩:=X6 L (by intro e;rw [e] at hn;simp at hn)
  have vp:=vL p hp
  have vp':=vp
  unfold wG at vp'
  have sup : ∀ q∈L, ∀ t,p.lo<=t->t<p.hi->cB q t=true->q.lo<=p.lo/\p.hi<=q.hi:=by
   intro q hq t h1 h2 h3
   rw [dO (vL q hq)] at h3
   have ha:=hL p hp q hq
   have hm:=hmin q hq
   unfold Apart at ha
   omega
  have const : ∀ s t,p.lo<=s->s<p.hi->p.lo<=t->t<p.hi->dH L s<=dH L t:=by
   intro s t h1 h2 h3 h4
   refine cnt_mono L fun q hq h=>?_
   have:=sup q hq s h1 h2 h
   rw [dO (vL q hq)]
   omega
  have r1:=rises hL vL hp
  have f1:=falls hL vL hp
  rw [hc,hc] at r1 f1
  obtain ⟨q,hq,q1,q2⟩:=X_ r1
  obtain ⟨r,hr,e1,e2⟩:=X_ f1
  have vq:=vM q hq
  have vr:=vM r hr
  have vq':=vq
  have vr':=vr
  unfold wG at vq' vr'
  rw [dO vq] at q1
  rw [dO vr] at e1
  have q3 : ¬ (q.lo<=p.lo-1/\p.lo-1<q.hi):=fun h=>by rw [(dO vq _).2 h] at q2;cases q2
  have e3 : ¬ (r.lo<=p.hi/\p.hi<r.hi):=fun h=>by rw [(dO vr _).2 h] at e2;cases e2
  have q4:p.hi<=q.hi:=by
   apply Classical.byContradiction
   intro hlt
   have f2:=falls hM vM hq
   have:=const (q.hi-1) q.hi (by omega) (by omega) (by omega) (by omega)
   rw [hc,hc] at this
   omega
  have e4:r.lo<=p.lo:=by
   apply Classical.byContradiction
   intro hlt
   have f2:=rises hM vM hr
   have:=const r.lo (r.lo-1) (by omega) (by omega) (by omega) (by omega)
   rw [hc,hc] at this
   omega
  have hpM:p∈M:=by
   have ha:=hM q hq r hr
   unfold Apart at ha
   rcases ha with h|h|h|h
   ·omega
   ·omega
   ·rw [show p=r from Mc (by omega) (by omega)];exact hr
   ·rw [show p=q from Mc (by omega) (by omega)];exact hq
  obtain ⟨A,B,rfl⟩:=List.append_of_mem hp
  obtain ⟨C,D,rfl⟩:=List.append_of_mem hpM
  have sL : ∀ x∈A++B,x∈A++p::B:=fun x hx=>by simp at hx ⊢;rcases hx with h|h<;>simp [h]
  have sM : ∀ x∈C++D,x∈C++p::D:=fun x hx=>by simp at hx ⊢;rcases hx with h|h<;>simp [h]
  have ih:=FZ n (A++B) (C++D) (by simp at hn ⊢;omega) (fun x hx y hy=>hL x (sL x hx) y (sL y hy)) (fun x hx y hy=>hM x (sM x hx) y (sM y hy)) (fun x hx=>vL x (sL x hx)) (fun x hx=>vM x (sM x hx)) (fun t=>by
   have:=hc t
   rw [tu,tu,fu,fu] at this
   rw [tu,tu]
   omega)
  exact List.perm_middle.trans ((ih.cons p).trans List.perm_middle.symm)
def ApS (p q:Int × Int):Prop:=p.2<q.1\/q.2<p.1\/(p.1<=q.1/\q.2<=p.2)\/(q.1<=p.1/\p.2<=q.2)
structure Stk (E:List Int) (out:List (Int × Int)) (x:Int):Prop where
 asc:E.Pairwise (· <= ·)
 out2 : ∀ p∈out, ∀ q∈out,ApS p q
 fin : ∀ p∈out,p.2<=x/\p.1<p.2
 opn : ∀ f∈E,f<=x /\ ∀ q∈out,f<=q.1\/q.2<f
theorem Stk.pop {E:List Int} {out:List (Int × Int)} {x y:Int} (h:Stk E out x) (hxy:x<y) (c:Nat) :
  (∀ p∈out++(E.drop c).map (fun f=>(f,y)), ∀ q∈out++(E.drop c).map (fun f=>(f,y)),ApS p q)/\(∀ p∈out++(E.drop c).map (fun f=>(f,y)),p.2<=y/\p.1<p.2):=by
 have key : ∀ p∈out, ∀ f∈E.drop c,ApS p (f,y)/\ApS (f,y) p:=by
  intro p hp f hf
  have h1:=(h.opn f (List.mem_of_mem_drop hf)).2 p hp
  have h2:=h.fin p hp
  unfold ApS
  dsimp only
  omega
 have two : ∀ f∈E.drop c, ∀ g∈E.drop c,ApS (f,y) (g,y):=by
  intro f _ g _
  unfold ApS
  dsimp only
  omega
 refine ⟨fun p hp q hq=>?_,fun p hp=>?_⟩
 ·rcases ad'.1 hp with hp|hp<;>rcases ad'.1 hq with hq|hq
  ·exact h.out2 p hp q hq
  ·obtain ⟨f,hf,rfl⟩:=aeh.1 hq
   exact (key p hp f hf).1
  ·obtain ⟨f,hf,rfl⟩:=aeh.1 hp
   exact (key q hq f hf).2
  ·obtain ⟨f,hf,rfl⟩:=aeh.1 hp
   obtain ⟨g,hg,rfl⟩:=aeh.1 hq
   exact two f hf g hg
 ·rcases ad'.1 hp with hp|hp
  ·have:=h.fin p hp;omega
  ·obtain ⟨f,hf,rfl⟩:=aeh.1 hp
   have:=(h.opn f (List.mem_of_mem_drop hf)).1
   dsimp only
   omega
theorem Stk.next {E:List Int} {out:List (Int × Int)} {x y:Int} (h:Stk E out x) (hxy:x<y) (c:Nat):Stk (St.BL E y c) (out++(E.drop c).map fun f=>(f,y)) y:=by
 obtain ⟨h1,h2⟩:=h.pop hxy c
 unfold St.BL
 refine ⟨?_,h1,h2,fun f hf=>?_⟩
 ·rw [List.pairwise_append]
  refine ⟨h.asc.sublist (List.take_sublist _ _),List.pairwise_replicate.2 (.inr (Int.le_refl _)),fun a ha b hb=>?_⟩
  obtain ⟨_,rfl⟩:=List.mem_replicate.1 hb
  have:=(h.opn a (aeD ha)).1
  omega
 ·rcases ad'.1 hf with hf|hf
  ·have h3:=h.opn f (aeD hf)
   refine ⟨by omega,fun q hq=>?_⟩
   rcases ad'.1 hq with hq|hq
   ·exact h3.2 q hq
   ·obtain ⟨g,hg,rfl⟩:=aeh.1 hq
    have hs:(E.take c++E.drop c).Pairwise (· <= ·):=by rw [aer];exact h.asc
    exact .inl ((List.pairwise_append.1 hs).2.2 f hf g hg)
  ·obtain ⟨hc,rfl⟩:=List.mem_replicate.1 hf
   refine ⟨Int.le_refl _,fun q hq=>?_⟩
   rcases ad'.1 hq with hq|hq
   ·have:=(h.fin q hq).1;exact .inr (by omega)
   ·rw [List.drop_eq_nil_of_le (by omega)] at hq
    cases hq
theorem P7 {l:List (Int × Int)} (ha:St.Asc l) : ∀ k,k<=l.length->(k=0/\St.mM l k=([],[])) \/ ∃ x y,l[k-1]?=some (x,y)/\0<k/\Stk (St.mM l k).1 (St.mM l k).2 x
 | 0,_ => .inl ⟨rfl,rfl⟩
 | k+1,hk=>by
  have ih:=P7 ha k (by omega)
  have hx:l[k]?=some (l[k]'(by omega)):=adR (by omega)
  generalize l[k]'(by omega)=p at hx
  obtain ⟨x,y⟩:=p
  refine .inr ⟨x,y,by simpa using hx,by omega,?_⟩
  rw [St.tL hx]
  unfold St.B_
  dsimp only
  rcases ih with ⟨_,e⟩|⟨x0,y0,hx0,hk0,h⟩
  ·rw [e]
   exact Stk.next (x:=x-1) ⟨.nil,fun p hp=>(by cases hp),fun p hp=>(by cases hp),fun f hf=>(by cases hf)⟩ (by omega) _
  ·exact h.next (by have:=ha (k-1) k _ _ (by omega) hx0 hx;exact this) _
theorem Yc {l:List (Int × Int)} (ha:St.Asc l) (hF : ∀ s∈l,s.1<1099511627776) : ∀ p∈St.Ng l, ∀ q∈St.Ng l,ApS p q:=by
 unfold St.Ng
 rcases P7 ha l.length (adY _) with ⟨_,e⟩|⟨x,y,hx,hk,h⟩
 ·rw [e];intro p hp;cases hp
 ·have:=h.pop (y:=1099511627776) (hF _ (adO hx)) 0
  rw [List.drop_zero] at this
  exact this.1
theorem Fj (ps:List aW) (hn:ps.length<=300):Lam (bO ps):=by
 obtain ⟨ha,hF,_,_⟩:=St.gN (jP ps)
 intro p hp q hq
 have h:=Yc ha hF _ ((Ch ps hn).subset (List.mem_map_of_mem hp)) _ ((Ch ps hn).subset (List.mem_map_of_mem hq))
 exact h
theorem uw (ps:List aW):(bO ps).Pairwise fun p q=>St.eT (toP p) (toP q):=by
 have h:=(St.oo (St.j_ (eO ps)) [] .nil).1
 have e:(bO ps).map toP=(St.j_ (eO ps)).foldl St.h_ []:=TH ps
 rw [<- e,List.pairwise_map] at h
 exact h
theorem AQ : ∀ {l m:List aW}, (l.Pairwise fun p q=>St.eT (toP p) (toP q))->(m.Pairwise fun p q=>St.eT (toP p) (toP q))->l.Perm m->l=m
 | [],m,_,_,h=>(List.Perm.nil_eq h)
 | p::l,[],_,_,h=>absurd h.length_eq (by simp)
 | p::l,q::m,hl,hm,h=>by
  have hp:p∈q::m:=h.subset (aet ..)
  have hq:q∈p::l:=h.symm.subset (aet ..)
  have e:p=q:=by
   rcases adZ.1 hp with e|hp
   ·exact e
   ·rcases adZ.1 hq with e|hq
    ·exact e.symm
    ·have h1:=List.rel_of_pairwise_cons hl hq
     have h2:=List.rel_of_pairwise_cons hm hp
     unfold St.eT toP at h1 h2
     dsimp only at h1 h2
     exact Mc (by omega) (by omega)
  subst e
  rw [AQ (List.Pairwise.of_cons hl) (List.Pairwise.of_cons hm) ((List.perm_cons p).1 h)]
theorem vN (g:List Val->List Val) (t:Int) : ∀ l:List aG,aX (l.map fun f=>(⟨g f.row,f.valid⟩:aG)) t=(aX l t).map g
 | []=>rfl
 | f::l=>by
  have ih:=vN g t l
  unfold aX at ih ⊢
  rw [adT,List.filter_cons,List.filter_cons]
  by_cases h2:cB f.valid t=true
  ·rw [if_pos h2,if_pos h2,adT,adT,adT,ih]
  ·rw [if_neg h2,if_neg h2,ih]
theorem Jb (l:List aG) (t:Int):(aX l t).length<=l.length:=by unfold aX;rw [adU];exact List.length_filter_le _ _
theorem Qw {l:List aG} {t:Int} {r:List Val} (h:r∈aX l t) : ∃ f∈l,f.row=r:=by
 obtain ⟨f,hf,rfl⟩:=aeh.1 h
 exact ⟨f,(List.mem_filter.1 hf).1,rfl⟩
theorem Z5 {ps:List aW} {p:aW} (hp:p∈ps) {t:Int} (h:cB p t=true):0<dH ps t:=by
 unfold dH
 exact List.length_pos_of_mem (List.mem_filter.2 ⟨hp,h⟩)
theorem SX {l:List aG} {R:List (List Val)} (h:eZ l R) (r:List Val):r∈R ↔ ∃ t,0<dH (bn l r) t:=by
 constructor
 ·intro hr
  obtain ⟨f,hf,hv,e⟩:=(h.2 r).1 hr
  have hp:f.valid∈bn l r:=aeh.2 ⟨f,List.mem_filter.2 ⟨hf,by simp [hv,e]⟩,rfl⟩
  have hV:=(DX f.valid).1 (show St.aH (toP f.valid)=true from hv)
  exact ⟨f.valid.lo,Z5 hp ((dO hV _).2 ⟨Int.le_refl _,hV.2.1⟩)⟩
 ·rintro ⟨t,ht⟩
  refine Classical.byContradiction fun hr=>?_
  rw [TS h hr] at ht
  exact absurd ht (by simp [dH])
theorem VA {ps qs:List aW} (hn:ps.length<=300) (hm:qs.length<=300) (h : ∀ t,dH ps t=dH qs t):bO ps=bO qs:=by
 have hc : ∀ t,dH (bO ps) t=dH (bO qs) t:=fun t=>by rw [Cc ps hn,Cc qs hm,h]
 exact AQ (uw ps) (uw qs) (FZ _ (bO ps) (bO qs) rfl (Fj ps hn) (Fj qs hm) (fun p hp=>(DX p).1 (jU ps hn p hp)) (fun p hp=>(DX p).1 (jU qs hm p hp)) hc)
theorem YT {l m:List aG} {R T:List (List Val)} (h:eZ l R) (k:eZ m T) (hl:l.length<=300) (hm:m.length<=300) (hp : ∀ t,(aX l t).Perm (aX m t)):eQ l R=eQ m T:=by
 have hc : ∀ r t,dH (bn l r) t=dH (bn m r) t:=fun r t=>by rw [<- xW, <- xW];exact (hp t).count_eq r
 have hR:R=T:=De h.1 k.1 fun r=>by rw [SX h,SX k];simp only [hc]
 subst hR
 unfold eQ
 rw [List.flatMap_def,List.flatMap_def]
 congr 1
 refine List.map_congr_left fun r _=>?_
 rw [VA (Nat.le_trans (fQ l r) hl) (Nat.le_trans (fQ m r) hm) (hc r)]
theorem ET (p:aW) (t:Int):lq p t=some (cB p t):=by
 rw [Jz,o8];rfl
theorem Wi (l:List aG) (t:Int) (hn:l.length<=63) (hr : ∀ f∈l,f.row.length<=1000000):P5 l t=some (gD (aX l t)):=by
 unfold P5
 have e:(l.flatMap fun f=>if cB f.valid t=true then [f.row] else [])=aX l t:=by
  unfold aX
  induction l with
  | nil=>rfl
  | cons f l ih =>
   rw [aej,ih (by simp at hn;omega) (fun g hg=>hr g (ad7 _ hg)),List.filter_cons]
   split<;>rfl
 have hl:(aX l t).length<=l.length:=by unfold aX;rw [adU];exact List.length_filter_le _ _
 rw [bJ (l:=l) (fun f=>if cB f.valid t=true then [f.row] else []) 5864062014805 ?_ ?_ (by unfold fuel;omega) [] (by rw [e];simp only [aec];omega)]
 ·rw [adH,e,adN]
  unfold CU
  dsimp only
  rw [za _ (by omega) (fun r hrr=>by
   unfold aX at hrr
   obtain ⟨f,hf,rfl⟩:=aeh.1 hrr
   exact hr f (List.mem_filter.1 hf).1)]
  rfl
 ·intro o i x hx ho
  have hi:=(adI.1 hx).1
  unfold BF
  dsimp only
  rw [aI hx,adK,gn_ hx]
  simp only [adH]
  rw [ET,adH]
  by_cases hv:cB x.valid t=true
  ·rw [if_pos hv] at ho ⊢
   rw [hv,adK,show decide (o.length+1<=5864062014805)=true from adM (by simpa using ho),adK,wrapN (by omega)]
  ·rw [if_neg hv]
   rw [Bool.not_eq_true] at hv
   rw [hv,adJ,wrapN (by omega),aeg]
 ·intro o
  unfold BF
  dsimp only
  rw [lF_,adJ]
theorem AP {a b:List (List Val)} (h:a.Perm b):gD a=gD b :=
 Aa tCr_ (Ec a) (Ec b) ((gL a).trans (h.trans (gL b).symm))
noncomputable def aat (l:List aG):List (List Val):=Classical.choose (Jc l)
theorem oU (l:List aG):eZ l (aat l):=(Classical.choose_spec (Jc l)).1
noncomputable def canon (l:List aG):List aG:=eQ l (aat l)
theorem Ha {l:List aG} {R:List (List Val)} (h:eZ l R):eQ l R=canon l:=by unfold canon;rw [eZ.ext h (oU l)]
theorem Dt {l:List aG} (hn:l.length<=300):(canon l).length<=l.length:=YV (oU l) hn
theorem tO {l:List aG} (hn:l.length<=300) (t:Int):(aX (canon l) t).Perm (aX l t):=abe (oU l) hn t
theorem LJ {l m:List aG} (hl:l.length<=300) (hm:m.length<=300) (hp : ∀ t,(aX l t).Perm (aX m t)):canon l=canon m:=YT (oU l) (oU m) hl hm hp
theorem Oe {l:List aG} (hn:l.length<=300):canon (canon l)=canon l:=LJ (Nat.le_trans (Dt hn) hn) hn (tO hn)
theorem C9 {l:List aG} (hn:l.length<=300) {f:aG} (h:f∈canon l):aM f.valid=true /\ ∃ g∈l,g.row=f.row:=by
 unfold canon eQ at h
 obtain ⟨r,hr,h⟩:=List.mem_flatMap.1 h
 obtain ⟨p,hp,rfl⟩:=aeh.1 h
 obtain ⟨g,hg,_,e⟩:=((oU l).2 r).1 hr
 exact ⟨jU _ (Nat.le_trans (fQ l r) hn) p hp,g,hg,e⟩
theorem bC {l:List aG} (h:bM l):bM (canon l):=by
 have hn:l.length<=300:=by have:=h.1;omega
 refine ⟨Nat.le_trans (Dt hn) h.1,fun f hf=>?_⟩
 obtain ⟨_,g,hg,e⟩:=C9 hn hf
 rw [<- e];exact h.2 g hg
theorem AZ {l:List aG} (h:bM l):Nl l=some (canon l):=by
 obtain ⟨R,hR,e⟩:=Sz l h
 rw [e,Ha hR]
theorem N9 {l:List aG} (hn:l.length<=63) (hr : ∀ f∈l,f.row.length<=1000000):qL l=some (canon l):=by
 obtain ⟨R,hR,e,_⟩:=O8 l hn hr
 rw [e,Ha hR]
theorem yD {l:List aG} (h:bM l) : ∀ f∈l,f.row.length<=1000000:=fun f hf=>by have:=(h.2 f hf).1;omega
theorem jJ {l:List aG} (h:bM l):qL l=some (canon l):=N9 (by have:=h.1;omega) (yD h)
theorem xC {l:List aG} (h:bM l):xu l l=some true:=PW l (by have:=h.1;omega) (yD h)
theorem Ce {l:List aG} (h:bM l):Dl (canon l)=some true:=by
 unfold Dl
 rw [jJ (bC h),adH,Oe (by have:=h.1;omega),xC (bC h)];rfl
theorem ng {k:List Int} {l:List aG} (hk:k.length<=1000000) (h:bM l):lK k l=some ⟨k,canon l⟩:=by
 unfold lK
 rw [adM (by omega),adK,AZ h];rfl
structure Kh (r:bI):Prop where
 len:r.facts.length<=16
 kinds:r.kinds.length<=48
 per : ∀ f∈r.facts,aM f.valid=true
 row : ∀ f∈r.facts,f.row.length=r.kinds.length
 val : ∀ f∈r.facts, ∀ v∈f.row,vF v=true
theorem Kh.fcts {r:bI} (h:Kh r):bM r.facts:=⟨by have:=h.len;omega,fun f hf=>⟨by rw [h.row f hf];have:=h.kinds;omega,fun v hv=>(xq (h.val f hf v hv)).vok⟩⟩
theorem QY {row:List Val} {kinds:List Int} (hk:kinds.length<=1000000) : ∃ b,wK row kinds=some b/\(b=true->row.length=kinds.length /\ ∀ v∈row,vF v=true):=by
 by_cases he:row.length=kinds.length
 ·obtain ⟨b,hb⟩:=VS row kinds (by omega)
  refine ⟨b,hb,fun hbt=>⟨he,?_⟩⟩
  subst hbt
  unfold wK at hb
  rw [show decide (((row.length:Nat):Int)≠((kinds.length:Nat):Int))=false from adL (by omega),adJ] at hb
  have key : ∀ (n i:Nat),i<=row.length->row.length-i<n->(az (iP row kinds) n (i:Int)).bind jR=some true -> ∀ v∈row.drop i,vF v=true:=by
   intro n
   induction n with
   | zero=>intro i _ h;omega
   | succ n ih =>
    intro i hi hn hb v hv
    rw [az] at hb
    by_cases hlt:i<row.length
    ·obtain ⟨x,hx⟩:=gol_ hlt
     obtain ⟨k,hk⟩:=gol_ (l:=kinds) (i:=i) (by omega)
     have h1:iP row kinds (i:Int)=bif (!vF x) then some (.ret false) else bif decide (x.kind≠0) then bif decide (x.kind≠k) then some (.ret false) else some (.next ((i+1:Nat):Int)) else some (.next ((i+1:Nat):Int)):=by
      unfold iP
      dsimp only
      rw [aI hx,adK,gn_ hx,gn_ hk]
      simp only [adH]
      rw [jG,adH,wrapN (by omega)]
     have hd:row.drop i=x::row.drop (i+1):=by rw [aed hlt,(adI.1 hx).2]
     rw [hd] at hv
     cases hvx:vF x with
     | false=>rw [h1,hvx] at hb;exact absurd (show (some false:Option Bool)=some true from hb) (by decide)
     | true =>
      have h2:iP row kinds (i:Int)=some (.next ((i+1:Nat):Int)):=by
       rw [h1,hvx,Bool.not_true,adJ]
       cases c1:decide (x.kind≠0) with
       | false=>rfl
       | true =>
        cases c2:decide (x.kind≠k) with
        | false=>rfl
        | true=>rw [h1,hvx,Bool.not_true,adJ,c1,c2] at hb;exact absurd (show (some false:Option Bool)=some true from hb) (by decide)
      rw [h2] at hb
      rcases adZ.1 hv with rfl|hv
      ·exact hvx
      ·exact ih (i+1) (by omega) (by omega) hb v hv
    ·rw [List.drop_eq_nil_of_le (by omega)] at hv;cases hv
  exact fun v hv=>key fuel 0 (ad4 _) (by unfold fuel;omega) hb v (by rw [List.drop_zero];exact hv)
 ·refine ⟨false,?_,fun h=>by cases h⟩
  unfold wK
  rw [show decide (((row.length:Nat):Int)≠((kinds.length:Nat):Int))=true from adM (by omega)];rfl
theorem Rc {r:bI} (hl:r.facts.length<=1000) (hk:r.kinds.length<=48) : ∃ b,Ma r=some b/\(b=true->(∀ f∈r.facts,aM f.valid=true)/\(∀ f∈r.facts,f.row.length=r.kinds.length) /\ ∀ f∈r.facts, ∀ v∈f.row,vF v=true):=by
 have key : ∀ (n i:Nat),i<=r.facts.length->r.facts.length-i<n -> ∃ b,(az (lN r) n (i:Int)).bind (gY r)=some b/\(b=true -> ∀ f∈r.facts.drop i,aM f.valid=true/\f.row.length=r.kinds.length /\ ∀ v∈f.row,vF v=true):=by
  intro n
  induction n with
  | zero=>intro i _ h;omega
  | succ n ih =>
   intro i hi hn
   rw [az]
   by_cases hlt:i<r.facts.length
   ·obtain ⟨x,hx⟩:=gol_ hlt
    have hd:r.facts.drop i=x::r.facts.drop (i+1):=by rw [aed hlt,(adI.1 hx).2]
    obtain ⟨b,hb,hb2⟩:=QY (row:=x.row) (kinds:=r.kinds) (by omega)
    have h1:lN r (i:Int)=bif !(aM x.valid) then some (.ret false) else bif !b then some (.ret false) else some (.next ((i+1:Nat):Int)):=by
     unfold lN
     dsimp only
     rw [aI hx,adK,gn_ hx,adH,kU,adH,hb,adH,wrapN (by omega)]
    rw [h1]
    cases hp:aM x.valid with
    | false=>exact ⟨false,rfl,fun h=>by cases h⟩
    | true =>
     cases b with
     | false=>exact ⟨false,rfl,fun h=>by cases h⟩
     | true =>
      obtain ⟨c,hc,hc2⟩:=ih (i+1) (by omega) (by omega)
      refine ⟨c,hc,fun h f hf=>?_⟩
      rw [hd] at hf
      rcases adZ.1 hf with rfl|hf
      ·exact ⟨hp,hb2 rfl⟩
      ·exact hc2 h f hf
   ·have:i=r.facts.length:=by omega
    subst this
    have h1:lN r ((r.facts.length:Nat):Int)=some (.exit ((r.facts.length:Nat):Int)):=by
     unfold lN
     dsimp only
     rw [lF_,adJ]
    rw [h1]
    obtain ⟨b,hb⟩:=Vk r.kinds (by omega)
    have : ∃ c,gY r (.inl ((r.facts.length:Nat):Int))=some c:=by
     unfold gY
     dsimp only
     rw [hb]
     cases decide ((0:Int)<((r.kinds.length:Nat):Int))<;>cases decide (((r.kinds.length:Nat):Int)<=48)<;>exact ⟨_,rfl⟩
    obtain ⟨c,hc⟩:=this
    refine ⟨c,hc,fun _ f hf=>?_⟩
    rw [aeB] at hf;cases hf
 obtain ⟨b,hb,hb2⟩:=key fuel 0 (ad4 _) (by unfold fuel;omega)
 refine ⟨b,hb,fun h=>?_⟩
 have:=hb2 h
 rw [List.drop_zero] at this
 exact ⟨fun f hf=>(this f hf).1,fun f hf=>(this f hf).2.1,fun f hf=>(this f hf).2.2⟩
theorem gK (r:bI) : ∃ b,lu r=some b/\(b=true->Kh r):=by
 unfold lu
 by_cases h1:r.facts.length<=16
 ·rw [adM (show ((r.facts.length:Nat):Int)<=16 by omega),adK]
  by_cases h2:r.kinds.length<=48
  ·rw [adM (show ((r.kinds.length:Nat):Int)<=48 by omega),adK]
   obtain ⟨b,hb,hb2⟩:=Rc (r:=r) (by omega) h2
   rw [hb]
   exact ⟨b,rfl,fun h=>⟨h1,h2,(hb2 h).1,(hb2 h).2.1,(hb2 h).2.2⟩⟩
  ·rw [adL (show ¬ ((r.kinds.length:Nat):Int)<=48 by omega)]
   exact ⟨false,rfl,fun h=>by cases h⟩
 ·rw [adL (show ¬ ((r.facts.length:Nat):Int)<=16 by omega)]
  exact ⟨false,rfl,fun h=>by cases h⟩
end Go.Proofs.YtfccopdbgfdcdaaGreatDoor
namespace Go.Proofs.YtfccopdbgfdcdaaGreatDoor.Aw
open Go.RowKit Go.MapKept
def MS:List (List AC)->Option (List Stp)
 | []=>some []
 | [.int .i64 a, .int .i64 b]::l=>match MS l with
  | some r=>some (⟨a,b⟩::r)
  | none=>none
 | _=>none
theorem KE : ∀ {es:List (List AC)} {l:List Stp}, MS es=some l->es=l.map xN
 | [],l,h=>by cases h;rfl
 | e::es,l,h=>by
  unfold MS at h
  split at h
  ·rename_i hq;cases hq
  ·rename_i a b es' heq
   obtain ⟨rfl,rfl⟩:=List.cons.inj heq
   split at h
   ·rename_i r hr
    cases h
    rw [adT, <- KE hr];rfl
   ·cases h
  ·cases h
def TM:List Stp->Bool
 | []=>true
 | x::l=>(l.all fun y=>decide (x.lo<y.lo))&&TM l
def Rv (l:List Stp):Bool:=decide (l.length<=1000)&&(TM l&&l.all fun s=>decide (s.lo<1099511627776)&&decide (s.n<=600))
theorem PP : ∀ {l:List Stp}, TM l=true->l.Pairwise fun x y=>x.lo<y.lo
 | [],_=>List.Pairwise.nil
 | x::l,h=>by
  unfold TM at h
  rw [ad1,aev] at h
  exact aeC.2 ⟨fun y hy=>aea (h.1 y hy),PP h.2⟩
theorem Br {l:List Stp} (h:Rv l=true):KT l:=by
 unfold Rv at h
 rw [ad1,ad1,aev] at h
 obtain ⟨h1,h2,h3⟩:=h
 refine ⟨aea h1,?_,fun s hs=>?_,fun s hs=>?_⟩
 ·intro i j x y hij hx hy
  rw [ad6] at hx hy
  obtain ⟨a,ha,rfl⟩:=Option.map_eq_some_iff.1 hx
  obtain ⟨b,hb,rfl⟩:=Option.map_eq_some_iff.1 hy
  obtain ⟨hi,ea⟩:=adI.1 ha
  obtain ⟨hj,eb⟩:=adI.1 hb
  have:=List.pairwise_iff_getElem.1 (PP h2) i j hi hj hij
  rw [ea,eb] at this
  exact this
 ·have:=h3 s hs;rw [ad1] at this;exact aea this.1
 ·have:=h3 s hs;rw [ad1] at this;exact aea this.2
def Xw:FuncId->List PV->Option CV:=fun g ps=>match Nat.beq g 90,ps with
 | true,[.one (.lst es)]=>match MS es with
  | some l=>match Rv l with
   | true=>some (.val (.one (.lst ((DY l).map dP))))
   | false=>none
  | none=>none
 | _,_=>none
theorem ZN (g:FuncId) (ps:List PV) (r:CV) (h:Xw g ps=some r):Pure Tryz.prog g ps r:=by
 unfold Xw at h
 split at h
 ·rename_i es hg
  split at h
  ·rename_i l hl
   split at h
   ·rename_i hb
    cases h
    rw [Nat.eq_of_beq_eq_true hg,KE hl]
    exact Pz l (Br hb)
   ·cases h
  ·cases h
 ·cases h
noncomputable def cx:Cx := { P:=Tryz.prog,ti:=VE,xs:=⟨224,223⟩,row:=acn,frz:=aci,flg:=ach,orc:=Xw,bad:=ab2 }
theorem Wd:Xg Tryz.prog 224:=⟨_,Tryz.func224,by kernel_rfl,by kernel_rfl,by kernel_rfl,by kernel_rfl⟩
theorem WU:aa3 Tryz.prog 223:=⟨_,Tryz.func223,by kernel_rfl,by kernel_rfl,by kernel_rfl,by kernel_rfl⟩
theorem I7:Av Tryz.prog.funcs.toList=true:=by kernel_rfl
theorem Hl:Ah cx Tryz.prog.funcs.toList 0=true:=by kernel_rfl
theorem TY:HY cx:=HY.of ah ⟨Wd,WU⟩ mixed I7 Hl (ZN)
theorem Vx:(evF cx 64).1 14 []=some (.val (.one (.bool true))):=by kernel_rfl
theorem aO:Pure Tryz.prog 14 [] (.val (.one (.bool true))):=(Aj TY 64).1 _ _ _ Vx
end Go.Proofs.YtfccopdbgfdcdaaGreatDoor.Aw
namespace Go.Proofs.YtfccopdbgfdcdaaGreatDoor
open Go.RowKit Go.MapKept
set_option maxRecDepth 100000
set_option maxHeartbeats 8000000
set_option maxHeartbeats 8000000
set_option maxHeartbeats 8000000
set_option maxHeartbeats 8000000
theorem tK {r:bI} {t:Int} (h:bM r.facts):zq r t=some ⟨r.kinds,gD (aX r.facts t)⟩:=by
 unfold zq
 rw [Wi _ _ (by have:=h.1;omega) (yD h)];rfl
theorem rV {l:List aG} {t:Int} (h:bM l):(gD (aX l t)).length<=1000000 /\ ∀ x∈gD (aX l t),x.length<=1000000:=by
 refine ⟨?_,fun x hx=>?_⟩
 ·rw [(gL _).length_eq];have:=Jb l t;have:=h.1;omega
 ·obtain ⟨f,hf,rfl⟩:=Qw ((gL _).subset hx)
  exact yD h f hf
set_option maxHeartbeats 8000000
set_option maxHeartbeats 8000000
set_option maxHeartbeats 8000000
set_option maxHeartbeats 8000000
noncomputable section
def uH (a_r:bI) (a_l:(List Ex)) (a_t:Int):Option (Bool):=(lu a_r).bind fun r_1=>bif (!r_1) then some (true) else
 (lI a_l a_r.kinds).bind fun r_4=>bif (!r_4) then some (true) else
 (jS a_r a_l).bind fun r_7=>(Dl r_7.facts).bind fun r_8=>bif r_8 then (zq r_7 a_t).bind fun r_10=>(zq a_r a_t).bind fun r_11=>(oM r_11 a_l).bind fun r_12=>(qb r_10 r_12).bind fun r_13=>bif r_13 then some (true) else
 some false else
 some false
theorem Jt {a_r:bI} {a_l:(List Ex)} {a_t:Int} {r:Bool} (H:uH a_r a_l a_t=some r):Pure Tryz.prog 8 [.agg (dW a_r), .one (.lst (a_l.map tE)), .one (.int .i64 a_t)] (.val (.one (.bool r))):=by
 unfold uH at H
 refine po_ Tryz.func8 Tryz.ntmps8 ?_
 obtain ⟨r_1,c1,H⟩:=bd_ H
 replace c1:=je c1
 rcases aa H with ⟨q_2,H⟩|⟨q_2,H⟩
 ·have hc_3:=Aw.aO
  try simp only [adV,adT,adX,adN,aj] at hc_3
  cases H
  exact af
 obtain ⟨r_4,c2,H⟩:=bd_ H
 replace c2:=uV c2
 rcases aa H with ⟨q_5,H⟩|⟨q_5,H⟩
 ·have hc_6:=Aw.aO
  try simp only [adV,adT,adX,adN,aj] at hc_6
  cases H
  exact af
 obtain ⟨r_7,c3,H⟩:=bd_ H
 replace c3:=nL c3
 obtain ⟨r_8,c4,H⟩:=bd_ H
 replace c4:=K4 c4
 rcases aa H with ⟨q_9,H⟩|⟨q_9,H⟩
 ·obtain ⟨r_10,c5,H⟩:=bd_ H
  replace c5:=sN c5
  obtain ⟨r_11,c6,H⟩:=bd_ H
  replace c6:=sN c6
  obtain ⟨r_12,c7,H⟩:=bd_ H
  replace c7:=JR c7
  obtain ⟨r_13,c8,H⟩:=bd_ H
  replace c8:=xB c8
  rcases aa H with ⟨q_14,H⟩|⟨q_14,H⟩
  ·have hc_15:=Aw.aO
   try simp only [adV,adT,adX,adN,aj] at hc_15
   cases H
   exact af
  cases H
  exact af
 cases H
 exact af
end
end Go.Proofs.YtfccopdbgfdcdaaGreatDoor
