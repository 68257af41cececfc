/- Parts of the proof, joined. No condition. -/
import Derived.Test.YtcehmafobkhdbaaGreatDoorKBI
set_option linter.unusedSimpArgs false
set_option linter.unusedVariables false
namespace Go.Proofs.YtcehmafobkhdbaaGreatDoor.St
open Go.RowKit
theorem Zh {A B:List ((Int × Int) × Int)} (h:(CS A).Perm (CS B)):P5 A=P5 B:=by
 have h1:pF A=pF B:=by
  funext p
  rw [wT,wT, <- D6 A p, <- D6 B p,Nh h]
 have h2:iq A=iq B:=by
  refine (jI A).1.ext (jI B).1 fun x=>?_
  rw [(jI A).2,(jI B).2]
  constructor
  ·rintro ⟨h3|⟨y,hy⟩,h4⟩
   ·exact ⟨.inl h3,h4⟩
   ·exact ⟨.inr ⟨y,h.mem_iff.1 hy⟩,h4⟩
  ·rintro ⟨h3|⟨y,hy⟩,h4⟩
   ·exact ⟨.inl h3,h4⟩
   ·exact ⟨.inr ⟨y,h.mem_iff.2 hy⟩,h4⟩
 unfold P5
 rw [h1,h2]
theorem Lc {P:List Int} (h:d_ P):P.Pairwise (· < ·):=List.pairwise_iff_getElem.2 fun i j hi hj hij=>h i j _ _ hij (ag4 hi) (ag4 hj)
theorem GA {l:List (Int × Int)} (h:l.Pairwise fun x y=>x.1<y.1):Asc l:=by
 intro i j x y hij hx hy
 obtain ⟨hi,rfl⟩:=agV.1 hx
 obtain ⟨hj,rfl⟩:=agV.1 hy
 exact List.pairwise_iff_getElem.1 h i j hi hj hij
theorem Nj (f:Int->Int) : ∀ (P:List Int) (acc:List (Int × Int)),P.Pairwise (· < ·)->(acc.Pairwise fun x y=>x.1<y.1)->(∀ s∈acc, ∀ x∈P,s.1<x)->(∀ s∈acc,s.2=f s.1) ->
  ((P.foldl (fun acc p=>fU acc (p,f p)) acc).Pairwise fun x y=>x.1<y.1) /\ ∀ s∈P.foldl (fun acc p=>fU acc (p,f p)) acc,(s∈acc\/s.1∈P)/\s.2=f s.1
 | [],acc,_,h2,_,h4=>⟨h2,fun s hs=>⟨.inl hs,h4 s hs⟩⟩
 | x::P,acc,h1,h2,h3,h4=>by
  rw [ahJ]
  have hp:=ahP.1 h1
  have hput : ∀ s∈fU acc (x,f x),s∈acc\/s=(x,f x):=by
   intro s hs
   unfold fU at hs
   split at hs
   ·exact .inl hs
   ·rcases ahl.1 hs with hs|hs
    ·exact .inl hs
    ·exact .inr (ahz.1 hs)
  have hpw:(fU acc (x,f x)).Pairwise fun x y=>x.1<y.1:=by
   unfold fU
   split
   ·exact h2
   ·refine List.pairwise_append.2 ⟨h2,List.pairwise_singleton _ _,fun a ha b hb=>?_⟩
    rw [ahz.1 hb]
    exact h3 a ha x (by simp)
  obtain ⟨q1,q2⟩:=Nj f P (fU acc (x,f x)) hp.2 hpw (fun s hs y hy=>by
   rcases hput s hs with h|rfl
   ·exact h3 s h y (ahh _ hy)
   ·exact hp.1 y hy) (fun s hs=>by
   rcases hput s hs with h|rfl
   ·exact h4 s h
   ·rfl)
  refine ⟨q1,fun s hs=>?_⟩
  obtain ⟨h5,h6⟩:=q2 s hs
  refine ⟨?_,h6⟩
  rcases h5 with h5|h5
  ·rcases hput s h5 with h|rfl
   ·exact .inl h
   ·exact .inr (by simp)
  ·exact .inr (ahh _ h5)
theorem Ih (l:List ((Int × Int) × Int)):Asc (P5 l) /\ ∀ s∈P5 l,s.1<1099511627776/\s.2=pF l s.1:=by
 obtain ⟨h1,h2⟩:=Nj (pF l) (iq l) [] (Lc (jI l).1) List.Pairwise.nil (fun s hs=>by cases hs) (fun s hs=>by cases hs)
 refine ⟨GA h1,fun s hs=>?_⟩
 obtain ⟨h3,h4⟩:=h2 s hs
 rcases h3 with h3|h3
 ·cases h3
 ·exact ⟨((jI l).2 s.1).1 h3 |>.2,h4⟩
theorem Vp (l:List ((Int × Int) × Int)):(P5 l).length<=1+2*l.length:=by
 have h1:=ql (pF l) (iq l)
 have h2:(iq l).length<=1+2*l.length:=by
  have ha : ∀ (l:List ((Int × Int) × Int)) (p:List Int),(l.foldl (fun p c=>if aO c.1 then ins c.1.2 (ins c.1.1 p) else p) p).length<=p.length+2*l.length:=by
   intro l
   induction l with
   | nil=>intro p;simp
   | cons c l ih =>
    intro p
    rw [ahJ,ahf]
    have:=ih (if aO c.1 then ins c.1.2 (ins c.1.1 p) else p)
    have h3:(if aO c.1 then ins c.1.2 (ins c.1.1 p) else p).length<=p.length+2:=by
     split
     ·have q1:=sZ c.1.2 (ins c.1.1 p);have q2:=sZ c.1.1 p;omega
     ·omega
    omega
  have h4:=ha l [0]
  have h5:(iq l).length<=(FV l).length:=by unfold iq;exact Bf _ _
  have h6:FV l=l.foldl (fun p c=>if aO c.1 then ins c.1.2 (ins c.1.1 p) else p) [0]:=rfl
  rw [h6] at h5
  simp at h4;omega
 show (dJ (pF l) (iq l)).length<=_
 omega
theorem Fb (p:Int) : ∀ l:List ((Int × Int) × Int),(∀ c∈l,c.2=1)->0<=tH l p/\tH l p<=l.length
 | [],_=>by simp [tH]
 | c::l,h=>by
  have ih:=Fb p l fun x hx=>h x (ahh _ hx)
  have hi:tH (c::l) p=(if a_ c.1 p then c.2 else 0)+tH l p:=by simp [tH]
  have hc:=h c (by simp)
  rw [hi,ahf]
  split<;>omega
theorem vk {l:List ((Int × Int) × Int)} (p:Int) (h : ∀ c∈l,c.2=1) (hn:l.length<=1000000):pF l p=tH l p:=by
 have:=Fb p l h
 rw [wT];unfold wrap64;omega
end Go.Proofs.YtcehmafobkhdbaaGreatDoor.St
namespace Go.Proofs.YtcehmafobkhdbaaGreatDoor
open Go.RowKit
def ones (ps:List aI):List FE:=ps.map fun p=>⟨p,1⟩
def bR (ps:List aI):List aI:=EC (AU (ones ps))
theorem yn (ps:List aI) : ∀ c∈(ones ps).map toC,c.2=1:=by
 intro c hc
 obtain ⟨x,hx,rfl⟩:=aht.1 hc
 obtain ⟨p,_,rfl⟩:=aht.1 hx
 rfl
theorem C_ (ps:List aI) (hn:ps.length<=300):Ng (AU (ones ps)):=by
 have hl:((ones ps).map toC).length=ps.length:=by simp [ones]
 obtain ⟨h1,h2⟩:=St.Ih ((ones ps).map toC)
 have h3:=St.Vp ((ones ps).map toC)
 rw [hl] at h3
 have e:(AU (ones ps)).map toS=St.P5 ((ones ps).map toC):=by
  unfold AU
  rw [List.map_map]
  have:(toS∘ofS)=id:=by funext x;rfl
  rw [this,List.map_id]
 refine ⟨by unfold AU;rw [ag7];omega,by rw [e];exact h1,fun s hs=>?_,fun s hs=>?_⟩
 ·have:toS s∈St.P5 ((ones ps).map toC):=by rw [<- e];exact List.mem_map_of_mem hs
  exact (h2 _ this).1
 ·have:toS s∈St.P5 ((ones ps).map toC):=by rw [<- e];exact List.mem_map_of_mem hs
  have h4:=(h2 _ this).2
  rw [St.vk _ (yn ps) (by omega)] at h4
  have h5:=(St.Fb (toS s).1 _ (yn ps)).2
  rw [hl] at h5
  show (toS s).2<=600
  omega
theorem Si (ps:List aI):St.CS ((ones ps).map toC)=ps.flatMap fun p=>St.pz (toP p,1):=by
 unfold St.CS ones
 rw [List.map_map,List.flatMap_map];rfl
theorem TC {ps qs:List aI} (h:(ps.filter fun p=>St.aO (toP p)).Perm (qs.filter fun p=>St.aO (toP p))):bR ps=bR qs:=by
 have key : ∀ l:List aI,(l.flatMap fun p=>St.pz (toP p,1))=(l.filter fun p=>St.aO (toP p)).flatMap fun p=>St.pz (toP p,1):=by
  intro l
  induction l with
  | nil=>rfl
  | cons p l ih =>
   rw [ahw,ih,List.filter_cons]
   by_cases hp:St.aO (toP p)=true
   ·rw [if_pos hp,ahw]
   ·have e:St.pz (toP p,1)=[]:=by unfold St.pz;rw [if_neg hp]
    rw [if_neg hp,e,ag0]
 have:AU (ones ps)=AU (ones qs):=by
  unfold AU
  rw [St.Zh (A:=(ones ps).map toC) (B:=(ones qs).map toC)]
  rw [Si,Si,key ps,key qs]
  exact h.flatMap_right _
 unfold bR
 rw [this]
theorem aaF {x:Int × Int} {l:List (Int × Int)} (h1:St.Hf l 1=[x]) (h2 : ∀ j:Nat,St.Hf l ((j:Int)+2)=[]):St.uD l=[x]:=by
 have:St.mR l=[x]:=by
  unfold St.mR
  rw [show (600:Nat)=599+1 from rfl,List.range_succ_eq_map,ahw]
  rw [show St.Hf l (((0:Nat):Int)+1)=[x] from h1]
  have:(List.map Nat.succ (List.range 599)).flatMap (fun j:Nat=>St.Hf l ((j:Int)+1))=[]:=by
   rw [List.flatMap_eq_nil_iff]
   intro j hj
   obtain ⟨k,_,rfl⟩:=aht.1 hj
   have:=h2 k
   rw [show ((k:Int)+2)=((Nat.succ k:Nat):Int)+1 by push_cast;omega] at this
   exact this
  rw [this,ahs]
 unfold St.uD
 rw [this]
 simp [St.jr]
theorem yE (p:Int × Int) (t:Int):St.pF [(p,1)] t=if St.a_ p t then 1 else 0:=by
 rw [St.vk t (by simp) (by simp)]
 simp [St.tH]
theorem Ye (p:aI) (hp:St.aO (toP p)=true):bR [p]=[p]:=by
 obtain ⟨a,b⟩:=p
 have hv:0<=a/\a<b/\b<=1099511627776:=by
  have h:St.aO (a,b)=true:=hp
  simp [St.aO] at h
  omega
 have hpts:St.iq [(((a,b):Int × Int),1)]=(if a=0 then [0] else [0,a])++(if b<1099511627776 then [b] else []):=by
  have e:St.FV [(((a,b):Int × Int),1)]=St.ins b (St.ins a [0]):=by
   unfold St.FV
   simp only [ahJ,List.foldl_nil]
   rw [if_pos (show St.aO (a,b)=true from hp)]
  unfold St.iq
  rw [e]
  have hF:(0:Int)<1099511627776:=by decide
  by_cases h0:a=0
  ·subst h0
   rw [show St.ins 0 [0]=[0] by simp [St.ins],show St.ins b [0]=[0,b] by simp only [St.ins];rw [if_pos (by omega)]]
   by_cases hb:b<1099511627776
   ·simp [List.takeWhile,hb]
   ·simp [List.takeWhile,hb]
  ·rw [show St.ins a [0]=[0,a] by simp only [St.ins];rw [if_pos (by omega)],show St.ins b [0,a]=[0,a,b] by simp only [St.ins];rw [if_pos (by omega),if_pos (by omega)]]
   have ha:a<1099511627776:=by omega
   by_cases hb:b<1099511627776
   ·simp [List.takeWhile,hb,ha,h0]
   ·simp [List.takeWhile,hb,ha,h0]
 have hof:St.P5 [(((a,b):Int × Int),1)]=(if a=0 then [(0,1)] else [(0,0),(a,1)])++(if b<1099511627776 then [(b,0)] else []):=by
  unfold St.P5
  rw [hpts]
  have r0:St.pF [(((a,b):Int × Int),1)] 0=if a=0 then 1 else 0:=by
   rw [yE]
   unfold St.a_
   have:St.aO (a,b)=true:=hp
   rw [this]
   by_cases h0:a=0
   ·subst h0;simp;omega
   ·have : ¬ a<=0:=by omega
    simp [h0,this]
  have ra:St.pF [(((a,b):Int × Int),1)] a=1:=by
   rw [yE]
   unfold St.a_
   have:St.aO (a,b)=true:=hp
   rw [this];simp;omega
  have rb:St.pF [(((a,b):Int × Int),1)] b=0:=by
   rw [yE]
   unfold St.a_
   have:St.aO (a,b)=true:=hp
   rw [this];simp
  by_cases h0:a=0
  ·rw [if_pos h0,if_pos h0]
   rw [if_pos h0] at r0
   by_cases hb:b<1099511627776
   ·rw [if_pos hb,if_pos hb]
    simp [St.dJ,St.fU,r0,rb]
   ·rw [if_neg hb,if_neg hb]
    simp [St.dJ,St.fU,r0]
  ·rw [if_neg h0,if_neg h0]
   rw [if_neg h0] at r0
   by_cases hb:b<1099511627776
   ·rw [if_pos hb,if_pos hb]
    simp [St.dJ,St.fU,r0,ra,rb]
   ·rw [if_neg hb,if_neg hb]
    simp [St.dJ,St.fU,r0,ra]
 have hl:St.uD (St.P5 [(((a,b):Int × Int),1)])=[(a,b)]:=by
  rw [hof]
  refine aaF ?_ fun j=>?_
  ·by_cases h0:a=0
   ·subst h0
    by_cases hb:b<1099511627776
    ·simp [hb,St.Hf,St.rR,St.dZ,St.jR]
    ·have:b=1099511627776:=by omega
     simp [this,St.Hf,St.rR,St.dZ,St.jR]
   ·by_cases hb:b<1099511627776
    ·simp [hb,h0,St.Hf,St.rR,St.dZ,St.jR]
    ·have:b=1099511627776:=by omega
     simp [this,h0,St.Hf,St.rR,St.dZ,St.jR]
  ·refine St.Hg.2 fun s hs=>?_
   have:s.2=0\/s.2=1:=by
    rcases ahl.1 hs with hs|hs
    ·split at hs
     ·rw [ahz.1 hs];exact .inr rfl
     ·rcases aha.1 hs with rfl|hs
      ·exact .inl rfl
      ·rw [ahz.1 hs];exact .inr rfl
    ·split at hs
     ·rw [ahz.1 hs];exact .inl rfl
     ·cases hs
   omega
 unfold bR EC AU ones
 rw [List.map_map,show (toS∘ofS)=id from rfl,List.map_id]
 show ((St.uD (St.P5 [(((a,b):Int × Int),1)])).map ofP)=_
 rw [hl];rfl
open Go.RowKit Go.MapKept
theorem df {α β ρ:Type} {l:List α} {body:(List β × Int)->Option (Step (List β × Int) ρ)} (g:α->List β) (N:Nat) (h1 : ∀ (s:List β) (i:Nat) x,l[i]?=some x->s.length+(g x).length<=N->body (s,(i:Int))=some (.next (s++g x,((i+1:Nat):Int)))) (h2 : ∀ s:List β,body (s,((l.length:Nat):Int))=some (.exit (s,((l.length:Nat):Int)))) (hl:l.length<fuel) (s:List β) (hN:s.length+(l.flatMap g).length<=N) :
  ax body fuel (s,(0:Int))=some (.inl (s++l.flatMap g,((l.length:Nat):Int))):=by
 have key : ∀ (n i:Nat) (s:List β),i<=l.length->l.length-i<n->s.length+((l.drop i).flatMap g).length<=N->ax body n (s,(i:Int))=some (.inl (s++(l.drop i).flatMap g,((l.length:Nat):Int))):=by
  intro n
  induction n with
  | zero=>intro i s _ h _;omega
  | succ n ih =>
   intro i s hi hn hs
   rw [ax]
   by_cases hlt:i<l.length
   ·obtain ⟨x,hx⟩:=gol_ hlt
    have e1:=(agV.1 hx).2
    rw [ahp hlt,e1,ahw] at hs ⊢
    rw [ag3] at hs
    rw [h1 s i x hx (by omega)]
    show ax body n _=_
    rw [ih (i+1) (s++g x) (by omega) (by omega) (by rw [ag3];omega),ahk]
   ·have:i=l.length:=by omega
    subst this
    rw [h2,ahO]
    simp
 have:=key fuel 0 s (ahe _) (by omega) (by simpa using hN)
 simpa using this
def Nt (l:List (List Val)):Prop:=l.Pairwise fun a b=>bS a b<0
theorem EM : ∀ {a b:List (List Val)}, Nt a->Nt b->(∀ x,x∈a↔x∈b)->a=b
 | [],[],_,_,_=>rfl
 | [],y::b,_,_,h=>by have:=(h y).2 (by simp);cases this
 | x::a,[],_,_,h=>by have:=(h x).1 (by simp);cases this
 | x::a,y::b,ha,hb,h=>by
  have ha:=ahP.1 ha
  have hb:=ahP.1 hb
  have irr : ∀ z, ¬ bS z z<0:=fun z=>by rw [tCr_.refl];omega
  have hxy:x=y:=by
   rcases aha.1 ((h x).1 (by simp)) with e|e
   ·exact e
   ·rcases aha.1 ((h y).2 (by simp)) with e2|e2
    ·exact e2.symm
    ·exact absurd (tCr_.trans _ _ _ (ha.1 y e2) (hb.1 x e)) (irr x)
  subst hxy
  rw [EM ha.2 hb.2 fun z=>?_]
  constructor
  ·intro hz
   rcases aha.1 ((h z).1 (ahh _ hz)) with rfl|e
   ·exact absurd (ha.1 z hz) (irr z)
   ·exact e
  ·intro hz
   rcases aha.1 ((h z).2 (ahh _ hz)) with rfl|e
   ·exact absurd (hb.1 z hz) (irr z)
   ·exact e
instance decRow (a b : List Val) : Decidable (a = b) := if h : bS a b = 0 then .isTrue (tCr_.zero _ _ h) else .isFalse fun e => h (by rw [e]; exact tCr_.refl _)
def bD (l:List aj) (r:List Val):List aI:=(l.filter fun f=>aL f.valid&&decide (f.row=r)).map (·.valid)
def fV (l:List aj) (R:List (List Val)):Prop:=Nt R /\ ∀ x,x∈R ↔ ∃ f∈l,aL f.valid=true/\f.row=x
def fO (l:List aj) (R:List (List Val)):List aj:=R.flatMap fun r=>(bR (bD l r)).map fun p=>⟨r,p⟩
theorem fV.ext {l:List aj} {R S:List (List Val)} (h:fV l R) (k:fV l S):R=S:=EM h.1 k.1 fun x=>(h.2 x).trans (k.2 x).symm
theorem qO (l:List aj) (f:aj) (r:List Val):bD (l++[f]) r=bD l r++(if aL f.valid&&decide (f.row=r) then [f.valid] else []):=by
 unfold bD
 rw [List.filter_append,ag8]
 congr 1
 by_cases h:(aL f.valid&&decide (f.row=r))=true
 ·simp [h]
 ·simp [h]
theorem K8 {s:ByteArray} : ∀ {G:List bL} {i:Nat}, ik s G=some i -> ∃ g,G[i]?=some g/\dP g.f.row=s
 | [],_,h=>by simp [ik] at h
 | g::r,i,h=>by
  unfold ik at h
  split at h
  ·rename_i e;injection h with h;subst h;exact ⟨g,rfl,e.symm⟩
  ·cases hr:ik s r with
   | none=>rw [hr] at h;cases h
   | some j =>
    rw [hr] at h;injection h with h;subst h
    obtain ⟨g',h1,h2⟩:=K8 hr
    exact ⟨g',by simpa using h1,h2⟩
theorem Jd {s:ByteArray} : ∀ {G:List bL}, ik s G=none -> ∀ g∈G,dP g.f.row≠s
 | [],_,g,hg=>by cases hg
 | x::r,h,g,hg=>by
  unfold ik at h
  split at h
  ·cases h
  ·rename_i e
   cases hr:ik s r with
   | none =>
    rcases aha.1 hg with rfl|hg
    ·exact fun q=>e q.symm
    ·exact Jd hr g hg
   | some j=>rw [hr] at h;cases h
structure GInv (l:List aj) (G:List bL):Prop where
 nd:G.Pairwise fun g h=>g.f.row≠h.f.row
 ps : ∀ g∈G,g.ps=bD l g.f.row
 mem : ∀ g∈G, ∃ f∈l,aL f.valid=true/\f.row=g.f.row
 all : ∀ f∈l,aL f.valid=true -> ∃ g∈G,g.f.row=f.row
theorem GInv.step {l:List aj} {G:List bL} (h:GInv l G) (f:aj):GInv (l++[f]) (jq G f):=by
 unfold jq
 cases hv:aL f.valid with
 | false =>
  rw [agW]
  refine ⟨h.nd,fun g hg=>?_,fun g hg=>?_,fun f' hf' hv'=>?_⟩
  ·rw [qO,hv];simpa using h.ps g hg
  ·obtain ⟨f',h1,h2⟩:=h.mem g hg;exact ⟨f',List.mem_append_left _ h1,h2⟩
  ·rcases ahl.1 hf' with hf'|hf'
   ·exact h.all f' hf' hv'
   ·rw [ahz.1 hf'] at hv';rw [hv] at hv';cases hv'
 | true =>
  rw [agX]
  cases hf:ik (dP f.row) G with
  | none =>
   have hne : ∀ g∈G,g.f.row≠f.row:=fun g hg e=>Jd hf g hg (by rw [e])
   have hemp:bD l f.row=[]:=by
    unfold bD
    rw [List.map_eq_nil_iff,List.filter_eq_nil_iff]
    intro f' hf' hc
    rw [ahb] at hc
    obtain ⟨g,hg,e⟩:=h.all f' hf' hc.1
    exact hne g hg (e.trans (ahm hc.2))
   refine ⟨List.pairwise_append.2 ⟨h.nd,List.pairwise_singleton _ _,fun g hg g' hg'=>by rw [ahz.1 hg'];exact hne g hg⟩,fun g hg=>?_,fun g hg=>?_,fun f' hf' hv'=>?_⟩
   ·rcases ahl.1 hg with hg|hg
    ·rw [qO,hv,show decide (f.row=g.f.row)=false from agY fun e=>hne g hg e.symm]
     simpa using h.ps g hg
    ·rw [ahz.1 hg,qO,hv,hemp];simp
   ·rcases ahl.1 hg with hg|hg
    ·obtain ⟨f',h1,h2⟩:=h.mem g hg;exact ⟨f',List.mem_append_left _ h1,h2⟩
    ·rw [ahz.1 hg];exact ⟨f,by simp,hv,rfl⟩
   ·rcases ahl.1 hf' with hf'|hf'
    ·obtain ⟨g,hg,e⟩:=h.all f' hf' hv';exact ⟨g,List.mem_append_left _ hg,e⟩
    ·rw [ahz.1 hf'];exact ⟨⟨f,[f.valid]⟩,by simp,rfl⟩
  | some i =>
   obtain ⟨g0,hg0,hk⟩:=K8 hf
   have hrow:g0.f.row=f.row:=key_inj hk
   dsimp only
   rw [hg0]
   dsimp only
   have hil:=(agV.1 hg0).1
   have hmap:(G.set i ⟨g0.f,g0.ps++[f.valid]⟩).map (·.f.row)=G.map (·.f.row):=by
    rw [List.map_set]
    refine List.ext_getElem? fun j=>?_
    rw [List.getElem?_set]
    split
    ·rename_i e;subst e
     rw [ag7,if_pos hil,ahg,hg0];rfl
    ·rfl
   have hnd:(G.set i ⟨g0.f,g0.ps++[f.valid]⟩).Pairwise fun g h=>g.f.row≠h.f.row:=by
    have h1:(G.map (·.f.row)).Pairwise (· ≠ ·):=List.pairwise_map.2 h.nd
    rw [<- hmap] at h1
    exact List.pairwise_map.1 h1
   have hmemG : ∀ g∈G.set i ⟨g0.f,g0.ps++[f.valid]⟩,(g∈G/\g.f.row≠f.row)\/g=⟨g0.f,g0.ps++[f.valid]⟩:=by
    intro g hg
    obtain ⟨j,hj⟩:=List.getElem?_of_mem hg
    rw [List.getElem?_set] at hj
    split at hj
    ·rename_i e
     injection hj with hj
     exact .inr hj.symm
    ·rename_i e
     refine .inl ⟨ag1 hj,fun q=>?_⟩
     have hjl:=(agV.1 hj).1
     have e1:=(agV.1 hj).2
     have e2:=(agV.1 hg0).2
     rcases Nat.lt_or_gt_of_ne e with hlt|hlt
     ·have:=List.pairwise_iff_getElem.1 h.nd i j hil hjl hlt
      rw [e1,e2] at this;exact this (hrow.trans q.symm)
     ·have:=List.pairwise_iff_getElem.1 h.nd j i hjl hil hlt
      rw [e1,e2] at this;exact this (q.trans hrow.symm)
   have hg0m:=ag1 hg0
   refine ⟨hnd,fun g hg=>?_,fun g hg=>?_,fun f' hf' hv'=>?_⟩
   ·rcases hmemG g hg with ⟨hg,hne⟩|rfl
    ·rw [qO,hv,show decide (f.row=g.f.row)=false from agY fun e=>hne e.symm]
     simpa using h.ps g hg
    ·show g0.ps++[f.valid]=bD (l++[f]) g0.f.row
     rw [qO,hv,show decide (f.row=g0.f.row)=true from agZ hrow.symm, <- h.ps g0 hg0m];rfl
   ·rcases hmemG g hg with ⟨hg,_⟩|rfl
    ·obtain ⟨f',h1,h2⟩:=h.mem g hg;exact ⟨f',List.mem_append_left _ h1,h2⟩
    ·exact ⟨f,by simp,hv,hrow.symm⟩
   ·have hex : ∃ g∈G,g.f.row=f'.row:=by
     rcases ahl.1 hf' with hf'|hf'
     ·exact h.all f' hf' hv'
     ·rw [ahz.1 hf'];exact ⟨g0,hg0m,hrow⟩
    obtain ⟨g,hg,e⟩:=hex
    have:g.f.row∈(G.set i ⟨g0.f,g0.ps++[f.valid]⟩).map (·.f.row):=by rw [hmap];exact List.mem_map_of_mem hg
    obtain ⟨g',hg',e'⟩:=aht.1 this
    exact ⟨g',hg',e'.trans e⟩
theorem Um (l:List aj):GInv l (eT l):=by
 have : ∀ (l l0:List aj) (G:List bL),GInv l0 G->GInv (l0++l) (l.foldl jq G):=by
  intro l
  induction l with
  | nil=>intro l0 G h;simpa using h
  | cons f l ih =>
   intro l0 G h
   have:=ih (l0++[f]) _ (h.step f)
   rw [ahk] at this
   exact this
 have:=this l [] [] ⟨List.Pairwise.nil,fun g hg=>(by cases hg),fun g hg=>(by cases hg),fun f hf=>(by cases hf)⟩
 simpa [eT] using this
theorem AZ (a b d:List Val) (h1:bS a b<=0) (h2:bS b d<=0):bS a d<=0:=by
 rcases Int.lt_or_eq_of_le h1 with h1|h1
 ·rcases Int.lt_or_eq_of_le h2 with h2|h2
  ·exact Int.le_of_lt (tCr_.trans _ _ _ h1 h2)
  ·rw [<- tCr_.zero _ _ h2];exact Int.le_of_lt h1
 ·rw [tCr_.zero _ _ h1];exact h2
theorem aaR (a b:List Val) (h : ¬ bS a b<0):bS b a<=0:=by
 have:=(tCr_.anti a b);omega
theorem J9 (l:List aj) : ∃ R,fV l R/\rD l=R.map fun r=>⟨r,bD l r⟩:=by
 have hi:=Um l
 have hp:=wN jw ((eT l).map fun g=>(⟨g.f.row,g.ps⟩:aa))
 have ha:=MF (c:=jw) (fun a b d=>AZ a.row b.row d.row) (fun a b=>aaR a.row b.row) ((eT l).map fun g=>(⟨g.f.row,g.ps⟩:aa))
 have hn:(rD l).Pairwise fun a b=>a.row≠b.row:=by
  have h1:((eT l).map fun g=>(⟨g.f.row,g.ps⟩:aa)).Pairwise fun a b=>a.row≠b.row:=List.pairwise_map.2 hi.nd
  exact (List.Perm.pairwise_iff (fun {a b} h=>Ne.symm h) hp).2 h1
 have hmem : ∀ s∈rD l,s.periods=bD l s.row /\ ∃ f∈l,aL f.valid=true/\f.row=s.row:=by
  intro s hs
  obtain ⟨g,hg,rfl⟩:=aht.1 (hp.mem_iff.1 hs)
  exact ⟨hi.ps g hg,hi.mem g hg⟩
 refine ⟨(rD l).map (·.row),⟨?_,fun x=>?_⟩,?_⟩
 ·refine List.pairwise_map.2 ?_
  refine (List.Pairwise.and ha hn).imp ?_
  rintro a b ⟨h1,h2⟩
  rcases Int.lt_or_eq_of_le h1 with h|h
  ·exact h
  ·exact absurd (tCr_.zero _ _ h) h2
 ·constructor
  ·intro hx
   obtain ⟨s,hs,rfl⟩:=aht.1 hx
   exact (hmem s hs).2
  ·rintro ⟨f,hf,hv,rfl⟩
   obtain ⟨g,hg,e⟩:=hi.all f hf hv
   exact aht.2 ⟨⟨g.f.row,g.ps⟩,hp.mem_iff.2 (aht.2 ⟨g,hg,rfl⟩),e⟩
 ·rw [List.map_map]
  refine (List.map_id (rD l)).symm.trans (List.map_congr_left fun s hs=>?_)
  have:=(hmem s hs).1
  obtain ⟨r,ps⟩:=s
  show (⟨r,ps⟩:aa)=⟨r,bD l r⟩
  rw [<- this]
theorem fo_ {α β:Type} (f:α->β) : ∀ l:List α,(l.flatMap fun x=>[f x])=l.map f
 | []=>rfl
 | x::l=>by rw [ahw,fo_ f l];rfl
theorem QJ (ps:List aI) (hn:ps.length<=100000):yw ps=some (AU (ones ps)):=by
 unfold yw
 rw [df (l:=ps) (fun p=>[(⟨p,1⟩:FE)]) 5864062014805 ?_ ?_ (by unfold fuel;omega) [] (by rw [fo_];simp;omega)]
 ·rw [agU,fo_,ag0]
  show (aaU (ones ps)).bind _=_
  unfold aaU
  rw [show decide ((ones ps).length<=100000)=true from agZ (by simpa [ones] using hn)]
  rfl
 ·intro s i x hx hs
  have hi:=(agV.1 hx).1
  unfold sj
  dsimp only
  rw [aV hx,agX,gn_ hx]
  simp only [agU]
  rw [show decide (s.length+1<=5864062014805)=true from agZ (by simpa using hs),agX,wrapN (by omega)]
 ·intro s
  unfold sj
  dsimp only
  rw [lF_,agW]
theorem MR (ps:List aI):(bR ps).length<=600*(1+2*ps.length):=by
 unfold bR EC
 rw [ag7,(St.Fs _).2.length_eq]
 have h1:=St.zS ((AU (ones ps)).map toS) 600
 have h2:St.mR ((AU (ones ps)).map toS)=St.mh ((AU (ones ps)).map toS) 600:=rfl
 rw [h2]
 have h3:((AU (ones ps)).map toS).length<=1+2*ps.length:=by
  rw [ag7]
  unfold AU
  rw [ag7]
  have:=St.Vp ((ones ps).map toC)
  simpa [ones] using this
 exact Nat.le_trans h1 (Nat.mul_le_mul_left _ h3)
theorem Zr (ps:List aI) (hn:ps.length<=300) (hv : ∀ p∈ps,aL p=true):Sb ps=some (bR ps):=by
 unfold Sb
 by_cases h1:ps.length=1
 ·rw [show decide (((ps.length:Nat):Int)=1)=true from agZ (by omega),agX]
  match ps,h1 with
  | [p],_=>rw [Ye p (hv p (by simp))]
 ·rw [show decide (((ps.length:Nat):Int)=1)=false from agY (by omega),agW,QJ ps (by omega),agU]
  unfold Vs
  rw [if_pos (C_ ps hn)]
  rfl
theorem NJ (l:List aj) (r:List Val):(bD l r).length<=l.length:=by unfold bD;rw [ag7];exact List.length_filter_le _ _
theorem Gg (l:List aj) (r:List Val) : ∀ p∈bD l r,aL p=true:=by
 intro p hp
 obtain ⟨f,hf,rfl⟩:=aht.1 hp
 have:=(List.mem_filter.1 hf).2
 rw [ahb] at this
 exact this.1
def Ll (s:aa):List aj:=(bR s.periods).map fun p=>⟨s.row,p⟩
theorem VG (l:List aj) (h:bM l) : ∃ R,fV l R/\Dw l=some (fO l R):=by
 obtain ⟨R,hR,hr⟩:=J9 l
 refine ⟨R,hR,?_⟩
 have hmem : ∀ s∈rD l,s.periods.length<=300/\(∀ p∈s.periods,aL p=true)/\s.row.length<=1000:=by
  intro s hs
  rw [hr] at hs
  obtain ⟨r,hrR,rfl⟩:=aht.1 hs
  obtain ⟨f,hf,_,e⟩:=(hR.2 r).1 hrR
  refine ⟨Nat.le_trans (NJ l r) h.1,Gg l r,?_⟩
  show r.length<=1000
  rw [<- e];exact (h.2 f hf).1
 have hlen:(rD l).length<=300:=by
  have h1:=(wN jw ((eT l).map fun g=>(⟨g.f.row,g.ps⟩:aa))).length_eq
  have h2:=Bu l
  have h3:=h.1
  show (qZ jw _).length<=300
  rw [h1,ag7];omega
 have hg : ∀ s∈rD l,(Ll s).length<=360600:=by
  intro s hs
  unfold Ll
  rw [ag7]
  have h1:=MR s.periods
  have h2:=(hmem s hs).1
  omega
 have htot:((rD l).flatMap Ll).length<=300*360600:=by
  have : ∀ (L:List aa),(∀ s∈L,(Ll s).length<=360600)->(L.flatMap Ll).length<=L.length*360600:=by
   intro L
   induction L with
   | nil=>intro _;simp
   | cons s L ih =>
    intro hL
    have h1:=ih fun x hx=>hL x (ahh _ hx)
    have h2:=hL s (by simp)
    rw [ahw,ag3,ahf];omega
  exact Nat.le_trans (this _ hg) (ahv _ hlen)
 have hb:fO l R=(rD l).flatMap Ll:=by
  rw [hr,List.flatMap_map];rfl
 unfold Dw Oe
 have e1:Du l=some (rD l):=by unfold Du;rw [if_pos h]
 rw [e1,agU]
 generalize rD l=X at hmem hlen hg htot hb ⊢
 rw [df (l:=X) Ll 3518437208883 ?_ ?_ (by unfold fuel;omega) [] (by simp only [aho];omega)]
 ·simp only [agU,Ap,ag0,hb]
 ·intro s i x hx hs
  have hi:=(agV.1 hx).1
  obtain ⟨m1,m2,m3⟩:=hmem x (ag1 hx)
  unfold zW
  dsimp only
  rw [aV hx,agX,gn_ hx]
  simp only [agU]
  rw [Zr x.periods (by omega) m2,agU]
  have hgl:(Ll x).length=(bR x.periods).length:=by unfold Ll;rw [ag7]
  have hgx:=hg x (ag1 hx)
  rw [df (l:=bR x.periods) (fun p=>[(⟨x.row,p⟩:aj)]) 3518437208883 ?_ ?_ (by unfold fuel;omega) s (by rw [fo_,ag7];omega)]
  ·rw [agU,fo_]
   show some (Step.next (s++Ll x,_))=_
   rw [wrapN (by omega)]
  ·intro s' j y hy hs'
   have hj:=(agV.1 hy).1
   unfold zZ
   dsimp only
   rw [aV hy,agX,gn_ hy]
   simp only [agU]
   rw [show decide (x.row.length<=4398046511104)=true from agZ (by omega),agX,show decide (s'.length+1<=3518437208883)=true from agZ (by simpa using hs'),agX,wrapN (by omega)]
  ·intro s'
   unfold zZ
   dsimp only
   rw [lF_,agW]
 ·intro s
  unfold zW
  dsimp only
  rw [lF_,agW]
set_option maxRecDepth 100000
def UD (l:List aj):Prop:=l.Pairwise fun a b=>bS a.row b.row<=0
def leF (x y:aj):Bool:=XC x.row y.row
theorem sJ (x y:aj):leF x y=true↔bS x.row y.row<=0:=pV x.row y.row
theorem qc {a b:List aj} (ha:a.length<=1000000) (hb:b.length<=1000000) (hra : ∀ r∈a,r.row.length<=1000000) (hrb : ∀ r∈b,r.row.length<=1000000) : ∀ (n i k:Nat) (out:List aj),i<=a.length->k<=b.length->out.length=i+k->(a.length-i)+(b.length-k)<n->(ax (dI a b) n (out,(i:Int),(k:Int))).bind pY=some (out++List.merge (a.drop i) (b.drop k) leF)
 | 0,_,_,_,_,_,_,h=>by omega
 | n+1,i,k,out,h1,h2,ho,hn=>by
  have hg:decide (out.length+1<=3518437208883)=true:=agZ (by omega)
  rw [ax]
  by_cases hlt:i<a.length
  ·obtain ⟨x,hx⟩:=gol_ hlt
   have ex:=(agV.1 hx).2
   have hne:decide ((i:Int)=((a.length:Nat):Int))=false:=agY (by omega)
   have ihA:=qc ha hb hra hrb n (i+1) k (out++[x]) (by omega) (by omega) (by simp;omega) (by omega)
   by_cases hlb:k<b.length
   ·obtain ⟨y,hy⟩:=gol_ hlb
    have ey:=(agV.1 hy).2
    have ihB:=qc ha hb hra hrb n i (k+1) (out++[y]) (by omega) (by omega) (by simp;omega) (by omega)
    have eb:dI a b (out,(i:Int),(k:Int))=bif decide (bS y.row x.row<0) then some (.next (out++[y],(i:Int),((k+1:Nat):Int))) else some (.next (out++[x],((i+1:Nat):Int),(k:Int))):=by
     unfold dI
     dsimp only
     rw [aV hx,agX,hne,agW,aV hy,agX,gn_ hy,gn_ hx]
     simp only [agU]
     rw [oz y.row x.row (by have:=hrb y (ag1 hy);omega) (by have:=hra x (ag1 hx);omega),wrapN (by omega),wrapN (by omega),hg]
     rfl
    rw [eb,ahp hlt,ahp hlb,ex,ey,List.cons_merge_cons]
    rw [ahp hlb,ey] at ihA
    rw [ahp hlt,ex] at ihB
    by_cases hc:bS y.row x.row<0
    ·rw [show decide (bS y.row x.row<0)=true from agZ hc,agX,if_neg (by unfold leF XC;simp [hc])]
     dsimp only
     rw [ihB];simp
    ·rw [show decide (bS y.row x.row<0)=false from agY hc,agW,if_pos (by unfold leF XC;simp [hc])]
     dsimp only
     rw [ihA];simp
   ·have hk:k=b.length:=by omega
    have eb:dI a b (out,(i:Int),(k:Int))=some (.next (out++[x],((i+1:Nat):Int),(k:Int))):=by
     unfold dI
     dsimp only
     rw [aV hx,agX,hne,agW,hk,lF_,agW,gn_ hx]
     simp only [agU]
     rw [wrapN (by omega),hg]
     rfl
    rw [eb]
    dsimp only
    rw [ihA,ahp hlt,ex,hk,ahO,List.merge_right,List.merge_right]
    simp
  ·have hi:i=a.length:=by omega
   subst hi
   by_cases hlb:k<b.length
   ·obtain ⟨y,hy⟩:=gol_ hlb
    have ey:=(agV.1 hy).2
    have ihB:=qc ha hb hra hrb n a.length (k+1) (out++[y]) (by omega) (by omega) (by simp;omega) (by omega)
    have eb:dI a b (out,((a.length:Nat):Int),(k:Int))=some (.next (out++[y],((a.length:Nat):Int),((k+1:Nat):Int))):=by
     unfold dI
     dsimp only
     rw [lF_,agW,aV hy,agX,show decide (((a.length:Nat):Int)=((a.length:Nat):Int))=true from agZ rfl,agX,gn_ hy]
     simp only [agU]
     rw [wrapN (by omega),hg]
     rfl
    rw [eb]
    dsimp only
    rw [ihB,ahp hlb,ey,ahO,List.nil_merge,List.nil_merge]
    simp
   ·have hk:k=b.length:=by omega
    subst hk
    have eb:dI a b (out,((a.length:Nat):Int),((b.length:Nat):Int))=some (.exit (out,((a.length:Nat):Int),((b.length:Nat):Int))):=by
     unfold dI
     dsimp only
     rw [lF_,agW,lF_,agW]
    rw [eb,ahO,ahO,List.nil_merge,ahs]
    rfl
theorem PQ {a b:List aj} (ha:a.length<=1000000) (hb:b.length<=1000000) (hra : ∀ r∈a,r.row.length<=1000000) (hrb : ∀ r∈b,r.row.length<=1000000):vG a b=some (List.merge a b leF):=by
 unfold vG
 have:=qc ha hb hra hrb fuel 0 0 [] (ahe _) (ahe _) rfl (by unfold fuel;omega)
 rw [show (((0:Nat):Int))=0 from rfl] at this
 rw [this];simp
theorem Te {a b:List aj} (ha:UD a) (hb:UD b):UD (List.merge a b leF):=by
 have:=List.pairwise_merge (le:=leF) (fun x y z h1 h2=>(sJ x z).2 (AZ _ _ _ ((sJ x y).1 h1) ((sJ y z).1 h2))) (fun x y=>by
  rw [Bool.or_eq_true,sJ,sJ];exact tCr_.total x.row y.row) a b (ha.imp fun h=>(sJ _ _).2 h) (hb.imp fun h=>(sJ _ _).2 h)
 exact this.imp fun h=>(sJ _ _).1 h
theorem RJ : ∀ (n:Nat) (l:List aj),l.length<=n->l.length<=1000000->(∀ r∈l,r.row.length<=1000000) -> ∃ r,yM (n+1) l=some r/\UD r/\r.Perm l:=by
 intro n
 induction n with
 | zero =>
  intro l h _ _
  have:l=[]:=by cases l with|nil=>rfl|cons _ _=>simp at h
  subst this
  exact ⟨[],rfl,List.Pairwise.nil,List.Perm.refl _⟩
 | succ n ih =>
  intro l h hl hr
  match l,h,hl,hr with
  | [],_,_,_=>exact ⟨[],rfl,List.Pairwise.nil,List.Perm.refl _⟩
  | [x],_,_,hr=>exact ⟨[x],rfl,by simp [UD],List.Perm.refl _⟩
  | x::y::t,h,hl,hr =>
   generalize hL:x::y::t=l at h hl hr
   have h2:2<=l.length:=by rw [<- hL];simp
   have hm:IntKind.i64.wrap (((l.length:Nat):Int).tdiv (2:Int))=((l.length/2:Nat):Int):=by
    rw [show ((l.length:Nat):Int).tdiv 2=((l.length/2:Nat):Int) from rfl]
    exact ko (by omega) (by omega)
   have s1:lT l 0 ((l.length/2:Nat):Int)=some (l.take (l.length/2)):=by
    unfold lT
    rw [if_pos (by omega),Int.toNat_natCast];rfl
   have s2:lT l ((l.length/2:Nat):Int) ((l.length:Nat):Int)=some (l.drop (l.length/2)):=by
    unfold lT
    rw [if_pos (by omega),Int.toNat_natCast,Int.toNat_natCast,List.take_length]
   obtain ⟨r1,e1,a1,p1⟩:=ih (l.take (l.length/2)) (by simp;omega) (by simp;omega) fun r hr'=>hr r (ahQ hr')
   obtain ⟨r2,e2,a2,p2⟩:=ih (l.drop (l.length/2)) (by simp;omega) (by simp;omega) fun r hr'=>hr r (List.mem_of_mem_drop hr')
   refine ⟨List.merge r1 r2 leF,?_,Te a1 a2,?_⟩
   ·show uP (yM (n+1)) l=_
    unfold uP
    rw [show decide (((l.length:Nat):Int)<2)=false from agY (by omega),agW,show decide ((2:Int)≠0)=true from rfl,agX,hm,s1]
    simp only [agU]
    rw [e1,agU,s2,agU,e2,agU]
    rw [PQ (by rw [p1.length_eq];simp;omega) (by rw [p2.length_eq];simp;omega) (fun r hr'=>hr r (ahQ (p1.mem_iff.1 hr'))) (fun r hr'=>hr r (List.mem_of_mem_drop (p2.mem_iff.1 hr')))]
    rfl
   ·refine (List.merge_perm_append leF).trans ((p1.append p2).trans ?_)
    rw [ahE]
theorem eH (p:aI):iP p=some (aL p):=by
 unfold iP aL
 cases h1:decide (0<=p.lo)<;>cases h2:decide (p.lo<p.hi)<;>cases h3:decide (p.hi<=1099511627776)<;>simp_all
theorem PL (x:List Val) (h:x.length<=1000000):mQ x x=some true:=by
 unfold mQ
 rw [oz x x (by omega) (by omega),agU,tCr_.refl];rfl
theorem JM (r:List Val) (hr:r.length<=1000000) (k:Nat) (hk:k<=300):nL (List.replicate k r)=some (if k=0 then [] else [r]):=by
 unfold nL
 have hp:=lS (List.replicate k r)
 have hs:xK (List.replicate k r)=List.replicate k r:=by
  refine List.eq_replicate_iff.2 ⟨by rw [hp.length_eq];simp,fun b hb=>?_⟩
  exact (List.mem_replicate.1 (hp.mem_iff.1 hb)).2
 rw [FK _ (by simpa using hk) (fun x hx=>by rw [(List.mem_replicate.1 hx).2];exact hr),agU,hs]
 have hlen:(List.replicate k r).length=k:=by simp
 have get : ∀ i,i<k->(List.replicate k r)[i]?=some r:=fun i hi=>by rw [List.getElem?_replicate];simp [hi]
 have loop : ∀ (n i:Nat),1<=i->i<=k->k-i<n->ax (bU (List.replicate k r)) n ([r],(i:Int))=some (.inl ([r],(k:Int))):=by
  intro n
  induction n with
  | zero=>intro i _ _ h;omega
  | succ n ih =>
   intro i h1 h2 hn
   rw [ax]
   by_cases hlt:i<k
   ·have hx:=get i hlt
    have e:bU (List.replicate k r) ([r],(i:Int))=some (.next ([r],((i+1:Nat):Int))):=by
     unfold bU
     dsimp only
     rw [aV hx,agX,show decide ((i:Int)=0)=false from agY (by omega),agW,show IntKind.i64.wrap ((i:Int)-1)=((i-1:Nat):Int) from ko (by omega) (by omega),gn_ (get (i-1) (by omega)),gn_ hx]
     simp only [agU]
     rw [PL r hr]
     simp only [agU,Bool.not_true,agW]
     rw [wrapN (by omega)]
    rw [e]
    exact ih (i+1) (by omega) (by omega) (by omega)
   ·have:i=k:=by omega
    subst this
    have e:bU (List.replicate i r) ([r],(i:Int))=some (.exit ([r],(i:Int))):=by
     unfold bU
     dsimp only
     rw [show decide ((i:Int)<(((List.replicate i r).length:Nat):Int))=false from agY (by simp),agW]
    rw [e]
 by_cases h0:k=0
 ·subst h0
  rw [if_pos rfl]
  have e:bU (List.replicate 0 r) ([],0)=some (.exit ([],0)):=by
   unfold bU
   rfl
  show (ax (bU (List.replicate 0 r)) (4611686018427387903+1) ([],0)).bind kV=_
  rw [ax,e]
  rfl
 ·rw [if_neg h0]
  have hx:=get 0 (by omega)
  have e:bU (List.replicate k r) ([],0)=some (.next ([r],((1:Nat):Int))):=by
   have hg:=gn_ hx
   unfold bU
   dsimp only
   rw [show decide ((0:Int)<(((List.replicate k r).length:Nat):Int))=true from agZ (by simp;omega),agX,show decide ((0:Int)=0)=true from rfl,agX]
   rw [show aH (List.replicate k r) 0=some r from hg]
   rfl
  show (ax (bU (List.replicate k r)) (4611686018427387903+1) ([],0)).bind kV=_
  rw [ax,e]
  dsimp only
  rw [loop 4611686018427387903 1 (by omega) (by omega) (by omega)]
  rfl
theorem Qj (s:List aj) (r:List Val) (hr:r.length<=1000000) (hs : ∀ f∈s,f.row=r) (hn:s.length<=300):D_ s=some (if s.any fun f=>aL f.valid then [r] else []):=by
 unfold D_
 have hfm : ∀ l:List aj,(∀ f∈l,f.row=r)->(l.flatMap fun f=>if aL f.valid then [f.row] else [])=List.replicate (l.countP fun f=>aL f.valid) r:=by
  intro l
  induction l with
  | nil=>intro _;rfl
  | cons f l ih =>
   intro h
   rw [ahw,ih fun x hx=>h x (ahh _ hx),List.countP_cons,h f (by simp)]
   by_cases hv:aL f.valid=true
   ·rw [if_pos hv,if_pos hv,List.replicate_succ];rfl
   ·rw [if_neg hv,if_neg hv];rfl
 have hc:s.countP (fun f=>aL f.valid)<=s.length:=List.countP_le_length
 rw [df (l:=s) (fun f=>if aL f.valid then [f.row] else []) 5864062014805 ?_ ?_ (by unfold fuel;omega) [] (by rw [hfm s hs];simp;omega)]
 ·rw [agU,hfm s hs,ag0]
  show (nL _).bind _=_
  rw [JM r hr _ (by omega),agU]
  by_cases ha:(s.any fun f=>aL f.valid)=true
  ·rw [if_pos ha,if_neg]
   intro e
   obtain ⟨f,hf,hv⟩:=List.any_eq_true.1 ha
   have:=(List.countP_pos_iff (p:=fun f:aj=>aL f.valid)).2 ⟨f,hf,hv⟩
   omega
  ·rw [if_neg ha,if_pos]
   rw [List.countP_eq_zero]
   intro f hf hv
   exact ha (List.any_eq_true.2 ⟨f,hf,hv⟩)
 ·intro o i x hx ho
  have hi:=(agV.1 hx).1
  unfold wG
  dsimp only
  rw [aV hx,agX,gn_ hx]
  simp only [agU]
  rw [eH,agU]
  by_cases hv:aL x.valid=true
  ·rw [if_pos hv] at ho ⊢
   rw [hv,agX,show decide (o.length+1<=5864062014805)=true from agZ (by simpa using ho),agX,wrapN (by omega)]
  ·rw [if_neg hv]
   rw [Bool.not_eq_true] at hv
   rw [hv,agW,wrapN (by omega),ahs]
 ·intro o
  unfold wG
  dsimp only
  rw [lF_,agW]
def eQ (l:List aj) (r:List Val):List aI:=(l.filter fun f=>decide (f.row=r)).map (·.valid)
theorem O8 (s:List aj) (r:List Val) (hr:r.length<=1000000) (hs : ∀ f∈s,f.row.length<=1000000) (hn:s.length<=1000):ul s r=some (AU (ones (eQ s r))):=by
 unfold ul
 have hfm : ∀ l:List aj,(l.flatMap fun f=>if f.row=r then [(⟨f.valid,1⟩:FE)] else [])=ones (eQ l r):=by
  intro l
  induction l with
  | nil=>rfl
  | cons f l ih =>
   rw [ahw,ih]
   unfold eQ ones
   by_cases e:f.row=r
   ·rw [if_pos e,List.filter_cons_of_pos (by simpa using e)];rfl
   ·rw [if_neg e,List.filter_cons_of_neg (by simpa using e)];rfl
 have hl:(eQ s r).length<=s.length:=by unfold eQ;rw [ag7];exact List.length_filter_le _ _
 have hl2:(ones (eQ s r)).length=(eQ s r).length:=by unfold ones;simp
 rw [df (l:=s) (fun f=>if f.row=r then [(⟨f.valid,1⟩:FE)] else []) 5864062014805 ?_ ?_ (by unfold fuel;omega) [] (by rw [hfm];simp;omega)]
 ·rw [agU,hfm,ag0]
  show (aac _).bind _=_
  unfold aac
  rw [show decide ((ones (eQ s r)).length<=100000)=true from agZ (by omega)]
  rfl
 ·intro o i x hx ho
  have hi:=(agV.1 hx).1
  unfold pX
  dsimp only
  rw [aV hx,agX,gn_ hx]
  simp only [agU]
  rw [oz x.row r (by have:=hs x (ag1 hx);omega) (by omega),agU]
  by_cases e:x.row=r
  ·rw [if_pos e] at ho ⊢
   rw [show decide (bS x.row r=0)=true from agZ (by rw [e];exact tCr_.refl r),agX,show decide (o.length+1<=5864062014805)=true from agZ (by simpa using ho),agX,wrapN (by omega)]
  ·rw [if_neg e,show decide (bS x.row r=0)=false from agY fun q=>e (tCr_.zero _ _ q),agW,wrapN (by omega),ahs]
 ·intro o
  unfold pX
  dsimp only
  rw [lF_,agW]
theorem Jq (r:List Val) (ps:List aI) (hn:ps.length<=1000000):wL r ps=some (ps.map fun p=>⟨r,p⟩):=by
 unfold wL
 rw [df (l:=ps) (fun p=>[(⟨r,p⟩:aj)]) 3518437208883 ?_ ?_ (by unfold fuel;omega) [] (by rw [fo_];simp;omega)]
 ·rw [agU,fo_,ag0];rfl
 ·intro o i x hx ho
  have hi:=(agV.1 hx).1
  unfold wR
  dsimp only
  rw [aV hx,agX,gn_ hx]
  simp only [agU]
  rw [show decide (o.length+1<=3518437208883)=true from agZ (by simpa using ho),agX,wrapN (by omega)]
 ·intro o
  unfold wR
  dsimp only
  rw [lF_,agW]
theorem NF (r:List Val) : ∀ l:List aj, ∃ s t,l=s++t/\(∀ f∈s,f.row=r)/\(∀ f u,t=f::u->f.row≠r)
 | []=>⟨[],[],rfl,(fun _ h=>by cases h),(fun _ _ h=>by cases h)⟩
 | f::l=>by
  by_cases e:f.row=r
  ·obtain ⟨s,t,h1,h2,h3⟩:=NF r l
   refine ⟨f::s,t,by rw [h1];rfl,fun g hg=>?_,h3⟩
   rcases aha.1 hg with rfl|hg
   ·exact e
   ·exact h2 g hg
  ·exact ⟨[],f::l,rfl,(fun _ h=>by cases h),(fun g u h=>by injection h with h1 h2;subst h1;exact e)⟩
theorem ZO {α:Type} (P s t:List α):lT (P++s++t) ((P.length:Nat):Int) (((P.length+s.length:Nat):Nat):Int)=some s:=by
 unfold lT
 rw [if_pos (by simp;omega),Int.toNat_natCast,Int.toNat_natCast]
 congr 1
 have e:(P++s++t).take (P.length+s.length)=P++s:=by
  rw [List.take_append_of_le_length (by simp)]
  rw [ahy (by simp)]
 rw [e,List.drop_left]
theorem TR (s t:List aj) (r:List Val):eQ (s++t) r=eQ s r++eQ t r:=by unfold eQ;rw [List.filter_append,ag8]
theorem Gw {l:List aj} {r:List Val} (h : ∀ f∈l,f.row≠r):eQ l r=[]:=by
 unfold eQ
 rw [List.map_eq_nil_iff,List.filter_eq_nil_iff]
 intro f hf e
 exact h f hf (ahm e)
def adJ (l:List aj) (G:List cu):Prop:=fV l (G.map (·.row)) /\ ∀ g∈G,g.steps=AU (ones (eQ l g.row))
theorem run_end (P s t:List aj) (r:List Val) (f0:aj) (hf0:f0.row=r) (hrl : ∀ f∈P++s++t,f.row.length<=1000000) (hn:(P++s++t).length<=300) (hs : ∀ f∈s,f.row=r) (hs0:s[0]?=some f0) (ht : ∀ f u,t=f::u->f.row≠r) :
  ∀ (n j:Nat),j<=s.length->s.length-j<n->ax (iT (P++s++t) ((P.length:Nat):Int)) n (((P.length+j:Nat):Nat):Int)=some (.inl (((P.length+s.length:Nat):Nat):Int)):=by
 have hi:(P++s++t)[P.length]?=some f0:=by
  rw [ahk,ag2 (ag' _),Nat.sub_self,ag9 (by have:=(agV.1 hs0).1;omega)]
  exact hs0
 have hnl:P.length+s.length<=300:=by simp only [ag3] at hn;omega
 intro n
 induction n with
 | zero=>intro j _ h;omega
 | succ n ih =>
  intro j hj hn2
  rw [ax]
  by_cases hlt:j<s.length
  ·obtain ⟨x,hx⟩:=gol_ hlt
   have hx2:(P++s++t)[P.length+j]?=some x:=by
    rw [ahk,ag2 (by omega),show P.length+j-P.length=j by omega,ag9 hlt]
    exact hx
   have hxm:=ag1 hx2
   have him:=ag1 hi
   have e:iT (P++s++t) ((P.length:Nat):Int) (((P.length+j:Nat):Nat):Int)=some (.next (((P.length+(j+1):Nat):Nat):Int)):=by
    unfold iT
    dsimp only
    rw [aV hx2,agX,gn_ hx2,gn_ hi]
    simp only [agU]
    rw [oz x.row f0.row (by have:=hrl x hxm;omega) (by have:=hrl f0 him;omega),agU]
    rw [hs x (ag1 hx),hf0,tCr_.refl]
    rw [show decide ((0:Int)=0)=true from rfl,agX,wrapN (by omega)]
    rfl
   rw [e]
   exact ih (j+1) (by omega) (by omega)
  ·have hje:j=s.length:=by omega
   subst hje
   have e:iT (P++s++t) ((P.length:Nat):Int) (((P.length+s.length:Nat):Nat):Int)=some (.exit (((P.length+s.length:Nat):Nat):Int)):=by
    unfold iT
    dsimp only
    cases t with
    | nil =>
     rw [show decide ((((P.length+s.length:Nat):Nat):Int)<(((P++s++([]:List aj)).length:Nat):Int))=false from agY (by simp),agW]
    | cons y u =>
     have hy:(P++s++y::u)[P.length+s.length]?=some y:=by
      rw [ag2 (by simp),ag3,Nat.sub_self];rfl
     rw [aV hy,agX,gn_ hy,gn_ hi]
     simp only [agU]
     rw [oz y.row f0.row (by have:=hrl y (ag1 hy);omega) (by have:=hrl f0 (ag1 hi);omega),agU]
     rw [show decide (bS y.row f0.row=0)=false from agY fun q=>ht y u rfl ((tCr_.zero _ _ q).trans hf0),agW]
   rw [e]
theorem XQ (all:List aj) (hrl : ∀ f∈all,f.row.length<=1000000) (hn:all.length<=300) (ha:UD all) :
  ∀ (n:Nat) (P t:List aj) (out:List cu),all=P++t->t.length<n->out.length<=P.length -> ∃ G,adJ t G/\ax (gH all) n (out,((P.length:Nat):Int))=some (.inl (out++G,((all.length:Nat):Int))):=by
 intro n
 induction n with
 | zero=>intro P t out _ h;omega
 | succ n ih =>
  intro P t out hall htn hout
  rw [ax]
  match t,hall,htn with
  | [],hall,_ =>
   refine ⟨[],⟨⟨List.Pairwise.nil,fun x=>?_⟩,fun g hg=>by cases hg⟩,?_⟩
   ·constructor
    ·intro h;cases h
    ·rintro ⟨f,hf,_⟩;cases hf
   ·have e:gH all (out,((P.length:Nat):Int))=some (.exit (out,((P.length:Nat):Int))):=by
     unfold gH
     dsimp only
     rw [show decide (((P.length:Nat):Int)<((all.length:Nat):Int))=false from agY (by rw [hall];simp),agW]
    rw [e,hall];simp
  | f0::t0,hall,htn =>
   obtain ⟨s,u,hsu,hs,hu⟩:=NF f0.row (f0::t0)
   have hs0:s[0]?=some f0:=by
    cases s with
    | nil=>exact absurd rfl (hu f0 t0 (by rw [hsu];rfl))
    | cons y s'=>rw [List.cons_append] at hsu;injection hsu with h1 _;rw [h1];rfl
   have hsl:0<s.length:=(agV.1 hs0).1
   have hall2:all=P++s++u:=by rw [hall,hsu,ahk]
   have hlen:=congrArg List.length hall2
   simp only [ag3] at hlen
   have hu2:u.length+s.length=(f0::t0).length:=by rw [hsu];simp;omega
   have hrun:=run_end P s u f0.row f0 rfl (by rw [<- hall2];exact hrl) (by rw [<- hall2];exact hn) hs hs0 hu fuel 0 (ahe _) (by unfold fuel;omega)
   rw [<- hall2,Nat.add_zero] at hrun
   have hr0:f0.row.length<=1000000:=hrl f0 (by rw [hall];simp)
   have hrs : ∀ f∈s,f.row.length<=1000000:=fun f hf=>hrl f (by rw [hall2];simp [hf])
   have hrows:=Qj s f0.row hr0 hs (by omega)
   have hcnt:=O8 s f0.row hr0 hrs (by omega)

   have hgt : ∀ f∈u,bS f0.row f.row<0:=by
    intro f hf
    have h1:UD u:=by rw [hall2] at ha;exact (List.pairwise_append.1 ha).2.1
    have h2 : ∀ a∈P++s, ∀ b∈u,bS a.row b.row<=0:=by rw [hall2] at ha;exact (List.pairwise_append.1 ha).2.2
    have hf0s:f0∈P++s:=List.mem_append_right _ (ag1 hs0)
    cases u with
    | nil=>cases hf
    | cons y v =>
     have hy0:=h2 f0 hf0s y (by simp)
     have hyn:bS f0.row y.row≠0:=fun q=>hu y v rfl (tCr_.zero _ _ q).symm
     have hlt:bS f0.row y.row<0:=by omega
     rcases aha.1 hf with rfl|hf
     ·exact hlt
     ·have hyf:=(ahP.1 h1).1 f hf
      rcases Int.lt_or_eq_of_le hyf with h|h
      ·exact tCr_.trans _ _ _ hlt h
      ·rw [<- tCr_.zero _ _ h];exact hlt
   have hne : ∀ f∈u,f.row≠f0.row:=fun f hf e=>by have:=hgt f hf;rw [e,tCr_.refl] at this;omega
   obtain ⟨o1,ho1⟩ : ∃ o1:List cu,o1=if s.any (fun f=>aL f.valid) then [⟨f0.row,AU (ones (eQ s f0.row))⟩] else []:=⟨_,rfl⟩
   have ho1l:o1.length<=1:=by rw [ho1];split<;>simp
   obtain ⟨G,hG,hL⟩:=ih (P++s) u (out++o1) hall2 (by simp at htn;simp at hu2;omega) (by simp;omega)
   have hi0:all[P.length]?=some f0:=by
    rw [hall,ag2 (ag' _),Nat.sub_self];rfl
   have e:gH all (out,((P.length:Nat):Int))=some (.next (out++o1,(((P++s).length:Nat):Int))):=by
    unfold gH
    dsimp only
    rw [aV hi0,agX,hrun,agU]
    show (lT all ((P.length:Nat):Int) (((P.length+s.length:Nat):Nat):Int)).bind _=_
    rw [show lT all ((P.length:Nat):Int) (((P.length+s.length:Nat):Nat):Int)=some s by rw [hall2];exact ZO P s u,agU,hrows,agU]
    by_cases hv:(s.any fun f=>aL f.valid)=true
    ·rw [if_pos hv] at ho1 ⊢
     rw [df (l:=[f0.row]) (fun r=>[(⟨r,AU (ones (eQ s f0.row))⟩:cu)]) 2932031007402 ?_ ?_ (by unfold fuel;simp) out (by simp;omega)]
     ·rw [agU,ho1,ag3];rfl
     ·intro o i x hx ho
      have hi:=(agV.1 hx).1
      have hi1:i=0:=by simpa using hi
      subst hi1
      simp at hx;subst hx
      unfold kr
      dsimp only
      rw [show decide (((0:Nat):Int)<((([f0.row]:List (List Val)).length:Nat):Int))=true from rfl,agX,show aH [f0.row] ((0:Nat):Int)=some f0.row from rfl,agU,hcnt,agU]
      rw [show decide (o.length+1<=2932031007402)=true from agZ (by simpa using ho),agX,wrapN (by omega)]
     ·intro o
      unfold kr
      dsimp only
      rw [lF_,agW]
    ·rw [if_neg hv] at ho1 ⊢
     rw [df (l:=([]:List (List Val))) (fun r=>([]:List cu)) 2932031007402 ?_ ?_ (by unfold fuel;simp) out (by simp;omega)]
     ·rw [agU,ho1,ag3];simp [ky]
     ·intro o i x hx;simp at hx
     ·intro o
      unfold kr
      dsimp only
      rw [lF_,agW]
   refine ⟨o1++G,⟨⟨?_,fun x=>?_⟩,fun g hg=>?_⟩,?_⟩
   ·rw [ag8]
    refine List.pairwise_append.2 ⟨by rw [ho1];split<;>simp,hG.1.1,fun a ha2 b hb=>?_⟩
    obtain ⟨f,hf,_,e⟩:=(hG.1.2 b).1 hb
    have:a=f0.row:=by rw [ho1] at ha2;split at ha2<;>simp at ha2;exact ha2
    rw [this, <- e];exact hgt f hf
   ·rw [ag8,ahl,hG.1.2 x,hsu]
    constructor
    ·rintro (h|⟨f,hf,h⟩)
     ·rw [ho1] at h
      split at h
      ·rename_i hv
       simp at h
       obtain ⟨f,hf,hv⟩:=List.any_eq_true.1 hv
       exact ⟨f,List.mem_append_left _ hf,hv,by rw [h];exact hs f hf⟩
      ·simp at h
     ·exact ⟨f,List.mem_append_right _ hf,h⟩
    ·rintro ⟨f,hf,hv,e⟩
     rcases ahl.1 hf with hf|hf
     ·left
      rw [ho1,if_pos (List.any_eq_true.2 ⟨f,hf,hv⟩)]
      simp [<- e,hs f hf]
     ·exact .inr ⟨f,hf,hv,e⟩
   ·rw [hsu,TR]
    rcases ahl.1 hg with hg|hg
    ·have hgr:g=⟨f0.row,AU (ones (eQ s f0.row))⟩:=by rw [ho1] at hg;split at hg<;>simp at hg;exact hg
     rw [hgr]
     rw [Gw hne,ahs]
    ·have hgm:g.row∈G.map (·.row):=List.mem_map_of_mem hg
     obtain ⟨f,hf,_,e⟩:=(hG.1.2 g.row).1 hgm
     rw [Gw (l:=s) (fun f' hf' q=>hne f hf (by rw [e, <- q];exact (hs f' hf'))),ag0]
     exact hG.2 g hg
   ·rw [e]
    dsimp only
    rw [hL,ahk]
theorem XV (l all:List aj) (h:all.Perm l) (r:List Val):bR (eQ all r)=bR (bD l r):=by
 refine TC ?_
 have e1:(eQ all r).filter (fun p=>St.aO (toP p))=bD all r:=by
  unfold eQ bD
  rw [List.filter_map,List.filter_filter]
  congr 1
 have e2:(bD l r).filter (fun p=>St.aO (toP p))=bD l r:=List.filter_eq_self.2 fun p hp=>Gg l r p hp
 rw [e1,e2]
 unfold bD
 exact (h.filter _).map _
theorem Sq (l:List aj) (hn:l.length<=300) (hr : ∀ f∈l,f.row.length<=1000000) : ∃ R,fV l R/\kU l=some (fO l R)/\(fO l R).length<=108180000:=by
 obtain ⟨all,e1,a1,p1⟩:=RJ 639 l (by omega) (by omega) hr
 have hal:all.length=l.length:=p1.length_eq
 obtain ⟨G,hG,hL⟩:=XQ all (fun f hf=>hr f (p1.mem_iff.1 hf)) (by omega) a1 fuel [] all [] rfl (by unfold fuel;omega) (ag' _)
 have hgr:uX l=some G:=by
  unfold uX
  rw [e1,agU]
  have:ax (gH all) fuel ([],(0:Int))=some (.inl ([]++G,((all.length:Nat):Int))):=hL
  rw [this,agU,ag0];rfl
 have hR:fV l (G.map (·.row)):=by
  refine ⟨hG.1.1,fun x=>(hG.1.2 x).trans ?_⟩
  constructor
  ·rintro ⟨f,hf,h⟩;exact ⟨f,p1.mem_iff.1 hf,h⟩
  ·rintro ⟨f,hf,h⟩;exact ⟨f,p1.mem_iff.2 hf,h⟩
 refine ⟨G.map (·.row),hR,?_⟩
 have hpl : ∀ r,(eQ all r).length<=300:=fun r=>by
  have:(eQ all r).length<=all.length:=by unfold eQ;rw [ag7];exact List.length_filter_le _ _
  omega
 have hlev : ∀ g∈G,Rl g.steps=some (bR (bD l g.row)):=by
  intro g hg
  rw [hG.2 g hg, <- XV l all p1]
  unfold Rl
  rw [if_pos (C_ _ (by have:=hpl g.row;omega))]
  rfl
 have hll : ∀ g∈G,(bR (bD l g.row)).length<=360600:=fun g hg=>by
  have h1:=MR (bD l g.row)
  have h2:=NJ l g.row
  omega
 have hGl:G.length<=300:=by

  have h1 : ∀ (R:List (List Val)) (L:List (List Val)),R.Nodup->(∀ x∈R,x∈L)->R.length<=L.length:=by
   intro R
   induction R with
   | nil=>intro L _ _;simp
   | cons x R ih =>
    intro L hnd hm
    have hx:=hm x (by simp)
    have hnd2:=List.nodup_cons.1 hnd
    have h2:=ih (L.erase x) hnd2.2 fun y hy=>by
     have hne:y≠x:=fun e=>hnd2.1 (e▸hy)
     exact (List.mem_erase_of_ne hne).2 (hm y (ahh _ hy))
    have h3:=List.length_erase_of_mem hx
    have h4:0<L.length:=List.length_pos_of_mem hx
    rw [ahf];omega
  have h2:(G.map (·.row)).Nodup:=by
   refine List.Pairwise.imp ?_ hR.1
   intro a b h e
   rw [e,tCr_.refl] at h;omega
  have h3:=h1 (G.map (·.row)) (l.map (·.row)) h2 fun x hx=>by
   obtain ⟨f,hf,_,e⟩:=(hR.2 x).1 hx
   exact aht.2 ⟨f,hf,e⟩
  simp at h3
  omega
 have hfl : ∀ L:List cu,(∀ g∈L,(bR (bD l g.row)).length<=360600)->(L.flatMap fun g=>(bR (bD l g.row)).map fun p=>(⟨g.row,p⟩:aj)).length<=L.length*360600:=by
  intro L
  induction L with
  | nil=>intro _;simp
  | cons g L ih =>
   intro hL
   have h1:=ih fun x hx=>hL x (ahh _ hx)
   have h2:=hL g (by simp)
   rw [ahw,ag3,ag7,ahf];omega
 have htot:=Nat.le_trans (hfl G hll) (ahv 360600 hGl)
 refine ⟨?_,by unfold fO;rw [List.flatMap_map];exact htot⟩
 unfold kU
 rw [hgr,agU]
 rw [df (l:=G) (fun g=>(bR (bD l g.row)).map fun p=>(⟨g.row,p⟩:aj)) 3518437208883 ?_ ?_ (by unfold fuel;omega) [] (by simp only [aho];omega)]
 ·rw [agU,ag0]
  show some _=some _
  unfold fO
  rw [List.flatMap_map]
 ·intro s i x hx hs
  have hi:=(agV.1 hx).1
  have hxm:=ag1 hx
  have h2:=hll x hxm
  unfold Dt
  dsimp only
  rw [aV hx,agX,gn_ hx]
  simp only [agU]
  rw [hlev x hxm,agU,Jq x.row _ (by omega),agU]
  rw [show decide (s.length+((bR (bD l x.row)).map fun p=>(⟨x.row,p⟩:aj)).length<=3518437208883)=true from agZ hs,agX,wrapN (by omega)]
 ·intro s
  unfold Dt
  dsimp only
  rw [lF_,agW]
theorem Qs (l:List aj) (hn:l.length<=1000000000) (hr : ∀ f∈l,f.row.length<=1000000):kM l l=some true:=by
 unfold kM
 rw [show decide (((l.length:Nat):Int)≠((l.length:Nat):Int))=false from agY fun h=>h rfl,agW]
 have loop : ∀ (n i:Nat),i<=l.length->l.length-i<n->ax (l7 l l) n (i:Int)=some (.inl ((l.length:Nat):Int)):=by
  intro n
  induction n with
  | zero=>intro i _ h;omega
  | succ n ih =>
   intro i hi h
   rw [ax]
   by_cases hlt:i<l.length
   ·obtain ⟨x,hx⟩:=gol_ hlt
    have hxr:=hr x (ag1 hx)
    have e:l7 l l (i:Int)=some (.next (((i+1:Nat):Nat):Int)):=by
     unfold l7
     dsimp only
     rw [aV hx,agX,gn_ hx]
     simp only [agU]
     rw [show dL [.c (.int .i64 x.valid.lo), .c (.int .i64 x.valid.hi)] [.c (.int .i64 x.valid.lo), .c (.int .i64 x.valid.hi)]=true by simp [dL],oz x.row x.row (by omega) (by omega)]
     simp only [Bool.not_true,agW,agU]
     rw [tCr_.refl,show decide ((0:Int)≠0)=false from rfl,agW,wrapN (by omega)]
    rw [e]
    exact ih (i+1) (by omega) (by omega)
   ·have:i=l.length:=by omega
    subst this
    have e:l7 l l ((l.length:Nat):Int)=some (.exit ((l.length:Nat):Int)):=by
     unfold l7
     dsimp only
     rw [lF_,agW]
    rw [e]
 have:=loop fuel 0 (ahe _) (by unfold fuel;omega)
 rw [show ax (l7 l l) fuel (0:Int)=_ from this]
 rfl
def mX:Val:=⟨0,0,ByteArray.empty⟩
theorem oK:oM=some mX:=rfl
theorem dn:fQ=some mX:=rfl
def vF (v:Val):Bool:=(eP v).getD false
theorem lK (v:Val):eP v=some (vF v):=by
 obtain ⟨r,hr⟩:=II v
 unfold vF
 rw [hr];rfl
theorem Ct (v:Val):wm v=some (vF v):=(show wm v=eP v from rfl).trans (lK v)
def PZ (v:Val):Val:=bif vF v then v else mX
theorem Kb (v:Val):zO v=some (PZ v):=by
 unfold zO PZ
 rw [Ct,agU,oK]
 cases vF v<;>rfl
theorem Jt (v:Val):wy v=some (PZ v):=by
 unfold wy PZ
 rw [lK,agU,dn]
 cases vF v<;>rfl
theorem pG:vF mX=true:=by
 have e:(ByteArray.empty.toList==(⟨#[]⟩:ByteArray).toList)=true:=by rw [ByteArray.toList_eq,ByteArray.toList_eq];rfl
 unfold vF eP mX
 dsimp only
 rw [e];rfl
theorem ug (v:Val):vF (PZ v)=true:=by
 unfold PZ
 cases h:vF v with
 | true=>exact h
 | false=>exact pG
def pM (b:Bool):Val:=bif b then ⟨3,1,ByteArray.empty⟩ else ⟨3,0,ByteArray.empty⟩
theorem Nu (b:Bool):yg b=some (pM b):=by cases b<;>rfl
theorem Ac (b:Bool):wB b=some (pM b):=by cases b<;>rfl
theorem Hr (b:Bool):vF (pM b)=true:=by
 have e:(ByteArray.empty.toList==(⟨#[]⟩:ByteArray).toList)=true:=by rw [ByteArray.toList_eq,ByteArray.toList_eq];rfl
 unfold vF eP pM
 cases b<;>(dsimp only [cond_true,cond_false];rw [e];rfl)
theorem oG (n:Int):sW n=some (PZ ⟨1,n,ByteArray.empty⟩):=by unfold sW;rw [Kb];rfl
theorem mP (n:Int):sF n=some (PZ ⟨1,n,ByteArray.empty⟩):=by unfold sF;rw [Jt];rfl
theorem Ws (s:ByteArray):Fe s=some (PZ ⟨2,0,s⟩):=by unfold Fe;rw [Kb];rfl
theorem XX (s:ByteArray):KW s=some (PZ ⟨2,0,s⟩):=by unfold KW;rw [Jt];rfl
def T3 (t:Int):Prop:=t=0\/t=1\/t=2
theorem Bq (v:Val) : ∃ t,lh v=some t/\jy v=some t/\T3 t:=by
 have e:lh v=jy v:=rfl
 have h : ∃ t,jy v=some t/\T3 t:=by
  unfold jy
  rw [Ac,Ac]
  simp only [agU]
  cases dL [.c (.int .i64 v.kind), .c (.int .i64 v.int), .c (.str v.text)] [.c (.int .i64 (pM true).kind), .c (.int .i64 (pM true).int), .c (.str (pM true).text)] with
  | true=>exact ⟨2,rfl, .inr (.inr rfl)⟩
  | false =>
   rw [agW]
   cases dL [.c (.int .i64 v.kind), .c (.int .i64 v.int), .c (.str v.text)] [.c (.int .i64 (pM false).kind), .c (.int .i64 (pM false).int), .c (.str (pM false).text)] with
   | true=>exact ⟨0,rfl, .inl rfl⟩
   | false=>exact ⟨1,rfl, .inr (.inl rfl)⟩
 obtain ⟨t,h1,h2⟩:=h
 exact ⟨t,e.trans h1,h1,h2⟩
def tF_ (v:Val):Int:=(jy v).getD 1
theorem lH (v:Val):lh v=some (tF_ v):=by obtain ⟨t,h1,h2,_⟩:=Bq v;unfold tF_;rw [h1,h2];rfl
theorem qy (v:Val):jy v=some (tF_ v):=by obtain ⟨t,h1,h2,_⟩:=Bq v;unfold tF_;rw [h2];rfl
theorem kD (v:Val):T3 (tF_ v):=by obtain ⟨t,h1,h2,h3⟩:=Bq v;unfold tF_;rw [h2];exact h3
def IZ (a:Int):Int:=if a=2 then 0 else if a=0 then 2 else 1
def Le (a b:Int):Int:=if a=0\/b=0 then 0 else if a=2/\b=2 then 2 else 1
def or3 (a b:Int):Int:=if a=2\/b=2 then 2 else if a=0/\b=0 then 0 else 1
theorem wE (a:Int):T3 (IZ a):=by unfold IZ;split;exact .inl rfl;split;exact .inr (.inr rfl);exact .inr (.inl rfl)
theorem OT (a b:Int):T3 (Le a b):=by unfold Le;split;exact .inl rfl;split;exact .inr (.inr rfl);exact .inr (.inl rfl)
theorem UG (a b:Int):T3 (or3 a b):=by unfold or3;split;exact .inr (.inr rfl);split;exact .inl rfl;exact .inr (.inl rfl)
theorem zL {a:Int} (h:T3 a):Lp a=some (IZ a):=by rcases h with rfl|rfl|rfl<;>rfl
theorem DK {a:Int} (h:T3 a):Ku a=some (IZ a):=by rcases h with rfl|rfl|rfl<;>rfl
theorem Kt {a:Int} (h:T3 a):tF a=some a:=by rcases h with rfl|rfl|rfl<;>rfl
theorem Ms {a b:Int} (ha:T3 a) (hb:T3 b):Fp [a,b]=some (Mg (Mg 2 a) b):=by
 unfold Fp
 rw [di (l:=[a,b]) (mk:=fun t i=>(t,i)) (f:=fun t x=>(tF x).bind fun r=>some (.inl (Mg t r))) ?_ ?_ (by unfold fuel;simp) 2]
 ·simp only [dF,Kt ha,Kt hb,agU]
  rfl
 ·intro s i x hx
  have hi:=(agV.1 hx).1
  unfold zH
  dsimp only
  rw [aV hx,agX,gn_ hx,wrapN (by simp at hi;omega)]
  simp only [agU]
  cases tF x<;>rfl
 ·intro s
  unfold zH
  dsimp only
  rw [lF_,agW]
theorem abx {a b:Int} (ha:T3 a) (hb:T3 b):UM a b=some (Le a b):=by
 unfold UM
 rw [Ms ha hb]
 rcases ha with rfl|rfl|rfl<;>rcases hb with rfl|rfl|rfl<;>rfl
theorem Zx {a b:Int} (ha:T3 a) (hb:T3 b):IV a b=some (Le a b):=by
 rcases ha with rfl|rfl|rfl<;>rcases hb with rfl|rfl|rfl<;>rfl
theorem adI {a b:Int} (ha:T3 a) (hb:T3 b):KF a b=some (or3 a b):=by
 unfold KF
 rw [zL ha,zL hb]
 simp only [agU]
 rw [Ms (wE a) (wE b)]
 rcases ha with rfl|rfl|rfl<;>rcases hb with rfl|rfl|rfl<;>rfl
theorem abI {a b:Int} (ha:T3 a) (hb:T3 b):TU a b=some (or3 a b):=by
 rcases ha with rfl|rfl|rfl<;>rcases hb with rfl|rfl|rfl<;>rfl
def CW (t:Int):Val:=if t=2 then pM true else if t=0 then pM false else mX
theorem mq {t:Int} (h:T3 t):Ee t=some (CW t):=by rcases h with rfl|rfl|rfl<;>rfl
theorem si {t:Int} (h:T3 t):GD t=some (CW t):=by rcases h with rfl|rfl|rfl<;>rfl
theorem w_ (t:Int):vF (CW t)=true:=by
 unfold CW
 split
 ·exact Hr _
 ·split
  ·exact Hr _
  ·exact pG
def Ue (a b:Val) (is:Bool):Int:=if a.kind=0\/a.kind≠b.kind then 1 else bif is then 2 else 0
theorem Vd (a b:Val) (is:Bool):T3 (Ue a b is):=by
 unfold Ue
 split
 ·exact .inr (.inl rfl)
 ·cases is
  ·exact .inl rfl
  ·exact .inr (.inr rfl)
theorem BP (a b:Val) (is:Bool):wU a b is=some (Ue a b is):=by
 unfold wU Ue
 by_cases h1:a.kind=0
 ·simp [h1]
 ·by_cases h2:a.kind=b.kind
  ·have hb : ¬ b.kind=0:=by rw [<- h2];exact h1
   simp only [h2,agY hb,agW,ne_eq,not_true_eq_false,decide_false,or_false]
   rw [if_neg hb]
   cases is<;>rfl
  ·simp only [agY h1,agW,ne_eq,h2,not_false_eq_true,decide_true,agX,or_true,if_true]
theorem JV (a b:Val) (is:Bool):Ak a b is=some (Ue a b is):=(show Ak a b is=wU a b is from rfl).trans (BP a b is)
def eqF (a b:Val):Int:=Ue a b (decide (zA a b=0))
def ltF (a b:Val):Int:=Ue a b (decide (zA a b<0))
theorem acW (a b:Val):Xf a b=some (eqF a b):=by unfold Xf;rw [DZ,agU,BP];rfl
theorem abK (a b:Val):X9 a b=some (eqF a b):=by unfold X9;rw [KL,agU,JV];rfl
theorem Xr (a b:Val):yh a b=some (ltF a b):=by unfold yh;rw [DZ,agU,BP];rfl
theorem Xo (a b:Val):zq a b=some (ltF a b):=by unfold zq;rw [KL,agU,JV];rfl
def wH (op:Int) (a b:Val):Int:=if op=7 then eqF a b else if op=8 then IZ (eqF a b) else if op=9 then ltF a b else if op=11 then ltF b a else if op=10 then IZ (ltF b a) else IZ (ltF a b)
theorem Uk (a b:Val):T3 (eqF a b):=Vd _ _ _
theorem EG (a b:Val):T3 (ltF a b):=Vd _ _ _
theorem lc (op:Int) (a b:Val):T3 (wH op a b):=by
 unfold wH
 split
 ·exact Uk _ _
 split
 ·exact wE _
 split
 ·exact EG _ _
 split
 ·exact EG _ _
 split
 ·exact wE _
 ·exact wE _
theorem iw (op:Int) (a b:Val):oo op a b=some (wH op a b):=by
 unfold oo wH
 simp only [acW,Xr,agU,zL (Uk a b),zL (EG a b),zL (EG b a)]
 by_cases h1:op=7
 ·simp [h1]
 by_cases h2:op=8
 ·simp [h2]
 by_cases h3:op=9
 ·simp [h3]
 by_cases h4:op=11
 ·simp [h4]
 by_cases h5:op=10
 ·simp [h5]
 simp [h1,h2,h3,h4,h5]
theorem kG (op:Int) (a b:Val):jl op a b=some (wH op a b):=by
 unfold jl wH
 simp only [abK,Xo,agU,DK (Uk a b),DK (EG a b),DK (EG b a)]
 by_cases h1:op=7
 ·simp [h1]
 by_cases h2:op=8
 ·simp [h2]
 by_cases h3:op=9
 ·simp [h3]
 by_cases h4:op=11
 ·simp [h4]
 by_cases h5:op=10
 ·simp [h5]
 simp [h1,h2,h3,h4,h5]
end Go.Proofs.YtcehmafobkhdbaaGreatDoor
