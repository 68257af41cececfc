/- Parts of the proof, joined. No condition. -/
import Derived.Test.YtlcceppoloaecaaGreatDoorKAA
import Derived.Test.YtlcceppoloaecaaGreatDoorKBD
import Derived.Test.YtlcceppoloaecaaGreatDoorKBE
import Derived.Test.YtlcceppoloaecaaGreatDoorKBJ
set_option linter.unusedSimpArgs false
set_option linter.unusedVariables false
namespace Go.Proofs.YtlcceppoloaecaaGreatDoor.St
open Go.RowKit
theorem Asc.of_list {l:List (Int × Int)} (h:l.Pairwise fun x y=>x.1<y.1):Asc l:=by
 intro i j x y hij hx hy
 obtain ⟨hi,rfl⟩:=ap0.1 hx
 obtain ⟨hj,rfl⟩:=ap0.1 hy
 exact List.pairwise_iff_getElem.1 h i j hi hj hij
theorem eT : ∀ {l:List (Int × Int)} {p:Int × Int}, f_ p l=true->(p::l).Pairwise (fun x y=>x.1<y.1) /\ ∀ s∈l,s.1<1099511627776
 | [],p,_=>⟨by simp,by simp⟩
 | q::r,p,h=>by
  simp only [f_,aqg] at h
  obtain ⟨h1,h2⟩:=eT (l:=r) (p:=q) h.2
  have hs:p.1<q.1/\q.1<1099511627776:=by have:=h.1;simp [Ap] at this;omega
  refine ⟨aqV.2 ⟨fun y hy=>?_,h1⟩,fun s hs'=>?_⟩
  ·rcases aqf.1 hy with e|e
   ·subst e;exact hs.1
   ·have:=(aqV.1 h1).1 y e;omega
  ·rcases aqf.1 hs' with e|e
   ·subst e;exact hs.2
   ·exact h2 s e
theorem jc {l:List (Int × Int)} (h:eD l=true):Asc l/\(∀ s∈l,s.1<1099511627776)/\l≠[] /\ ∀ x,l[0]?=some x->x.1=0:=by
 match l,h with
 | p::r,h =>
  simp only [eD,aqg,beq_iff_eq] at h
  obtain ⟨h1,h2⟩:=eT h.2
  refine ⟨Asc.of_list h1,fun s hs=>?_,by simp,fun x hx=>?_⟩
  ·rcases aqf.1 hs with e|e
   ·subst e;omega
   ·exact h2 s e
  ·simp at hx;subst hx;exact h.1
def ik (z:Int) (l:List (Int × Int)) (t:Int):Int:=l.foldl (fun n s=>if s.1<=t then s.2 else n) z
theorem Bh {l:List (Int × Int)} {t:Int} (h1:0<=t) (h2:t<1099511627776):y7 l t=ik 0 l t:=by unfold y7;rw [if_pos ⟨h1,h2⟩];rfl
theorem ajg {l:List (Int × Int)} {t:Int} (h : ¬ (0<=t/\t<1099511627776)):y7 l t=0:=by unfold y7;rw [if_neg h]
theorem dz (z:Int) (p:Int × Int) (l:List (Int × Int)) (t:Int):ik z (p::l) t=ik (if p.1<=t then p.2 else z) l t:=rfl
theorem il {z:Int} {l:List (Int × Int)} {t:Int} (h : ∀ x∈l,t<x.1):ik z l t=z:=Cy t l z h
theorem PZ (z:Int) (l:List (Int × Int)) (q:Int × Int) (t:Int):ik z (l++[q]) t=if q.1<=t then q.2 else ik z l t:=by unfold ik;rw [List.foldl_append];rfl
theorem Xw {u:List (Int × Int)} {x y:Int} {q:Int × Int} (hu:eD u=true) (hl:u.getLast?=some (x,y)) (h1:x<q.1) (h2:q.1<1099511627776) (h3:q.2≠y):eD (u++[q])=true:=by
 match u,hu with
 | p::r,hu =>
  simp only [eD,aqg,beq_iff_eq] at hu
  simp only [List.cons_append,eD,aqg,beq_iff_eq]
  refine ⟨hu.1,?_⟩
  have he:(p::r).getLast (by simp)=(x,y):=by
   rw [List.getLast?_eq_some_getLast (by simp)] at hl
   exact aqw hl
  rw [BZ,hu.2,he]
  unfold Ap
  simp [h1,h2,h3]
theorem aer {u:List (Int × Int)} (ha:Asc u) {x y t:Int} (hl:u.getLast?=some (x,y)) (ht:x<=t) (z:Int):ik z u t=y:=by
 have hne:u≠[]:=by intro e;subst e;simp at hl
 have hu:u=u.dropLast++[(x,y)]:=by
  have h1:=List.dropLast_concat_getLast hne
  rw [List.getLast?_eq_some_getLast hne] at hl
  rw [<- aqw hl];exact h1.symm
 rw [hu,PZ,if_pos ht]
theorem ajQ {u:List (Int × Int)} (ha:Asc u) {x y p v:Int} (hl:u.getLast?=some (x,y)) (hp:x<p) (z t:Int):ik z (gN u (p,v)) t=if p<=t then v else ik z u t:=by
 unfold gN
 rw [hl]
 simp only [Option.map_some,Option.some.injEq]
 by_cases e:y=v
 ·rw [if_pos e]
  split
  ·rw [aer ha hl (by omega),e]
  ·rfl
 ·rw [if_neg e,PZ]
theorem afk {u:List (Int × Int)} {x y p v:Int} (hu:eD u=true) (hl:u.getLast?=some (x,y)) (hp:x<p) (hF:p<1099511627776):eD (gN u (p,v))=true /\ ∃ x' y',(gN u (p,v)).getLast?=some (x',y')/\x'<=p:=by
 unfold gN
 rw [hl]
 simp only [Option.map_some,Option.some.injEq]
 by_cases e:y=v
 ·rw [if_pos e];exact ⟨hu,x,y,hl,by omega⟩
 ·rw [if_neg e];exact ⟨Xw hu hl hp hF (fun h=>e h.symm),p,v,by simp,Int.le_refl _⟩
theorem NN (f:Int->Int) : ∀ (P:List Int) (u:List (Int × Int)) (x y:Int),eD u=true->u.getLast?=some (x,y)->(∀ p∈P,x<p/\p<1099511627776)->fo P ->
  eD (P.foldl (fun acc p=>gN acc (p,f p)) u)=true /\ ∀ z t,ik z (P.foldl (fun acc p=>gN acc (p,f p)) u) t=ik (ik z u t) (P.map fun p=>(p,f p)) t
 | [],u,x,y,hu,hl,_,_=>⟨hu,fun z t=>rfl⟩
 | p::P,u,x,y,hu,hl,hP,hA=>by
  obtain ⟨h1,h2⟩:=hP p (by simp)
  obtain ⟨g1,x',y',g2,g3⟩:=afk (v:=f p) hu hl h1 h2
  obtain ⟨k1,k2⟩:=NN f P (gN u (p,f p)) x' y' g1 g2 (fun q hq=>⟨by have:=hA.head q hq;omega,(hP q (by simp [hq])).2⟩) hA.tail
  refine ⟨k1,fun z t=>?_⟩
  rw [aqP,k2,ajQ (jc hu).1 hl h1,ap',dz]
theorem JV (f:Int->Int) {P:List Int} (hA:fo P) (h0:P.head?=some 0) (hF : ∀ p∈P,p<1099511627776):eD (dW f P)=true /\ ∀ z t,ik z (dW f P) t=ik z (P.map fun p=>(p,f p)) t:=by
 match P,h0 with
 | p::P,h0 =>
  simp at h0
  subst h0
  have h1:=NN f P [(0,f 0)] 0 (f 0) rfl rfl (fun q hq=>⟨hA.head q hq,hF q (by simp [hq])⟩) hA.tail
  have h2:dW f (0::P)=P.foldl (fun acc p=>gN acc (p,f p)) [(0,f 0)]:=rfl
  rw [h2]
  refine ⟨h1.1,fun z t=>?_⟩
  rw [h1.2,ap',dz]
  rfl
def ahU (g:Int->Int) (P:List Int):Prop := ∀ t p,0<=t->t<1099511627776->p∈P->p<=t->(∀ q∈P,q<=t->q<=p)->g t=g p
theorem Ry (g:Int->Int) : ∀ (P:List Int) (z t:Int),fo P->(∃ p∈P,p<=t) -> ∃ p∈P,p<=t/\(∀ q∈P,q<=t->q<=p)/\ik z (P.map fun p=>(p,g p)) t=g p
 | [],z,t,_,⟨p,hp,_⟩=>by simp at hp
 | a::P,z,t,hA,⟨p,hp,hpt⟩=>by
  have hat:a<=t:=by
   rcases aqf.1 hp with e|e
   ·omega
   ·have:=hA.head p e;omega
  rw [ap',dz,if_pos hat]
  by_cases h : ∃ q∈P,q<=t
  ·obtain ⟨q,h1,h2,h3,h4⟩:=Ry g P (g a) t hA.tail h
   refine ⟨q,by simp [h1],h2,fun r hr hrt=>?_,h4⟩
   rcases aqf.1 hr with e|e
   ·have:=hA.head q h1;omega
   ·exact h3 r e hrt
  ·refine ⟨a,by simp,hat,fun r hr hrt=>?_,?_⟩
   ·rcases aqf.1 hr with e|e
    ·omega
    ·exact absurd ⟨r,e,hrt⟩ h
   ·refine il fun x hx=>?_
    obtain ⟨q,hq,e⟩:=aqz.1 hx
    subst e
    exact Int.not_le.1 fun hh=>h ⟨q,hq,hh⟩
theorem Ws (g:Int->Int) {P:List Int} (hA:fo P) (h0:P.head?=some 0) (hF : ∀ p∈P,p<1099511627776) (hC:ahU g P) {t:Int} (t1:0<=t) (t2:t<1099511627776):y7 (dW g P) t=g t:=by
 rw [Bh t1 t2,(JV g hA h0 hF).2]
 have h0m:(0:Int)∈P:=List.mem_of_mem_head? h0
 obtain ⟨p,h1,h2,h3,h4⟩:=Ry g P 0 t hA ⟨0,h0m,t1⟩
 rw [h4,hC t p t1 t2 h1 h2 h3]
theorem Ro {P:List Int} (hA:fo P) (h0:(0:Int)∈P) (hp : ∀ p∈P,0<=p):P.head?=some 0:=by
 match P,h0 with
 | a::P,h0 =>
  have ha:=hp a (by simp)
  rcases aqf.1 h0 with e|e
  ·rw [<- e];rfl
  ·have:=hA.head 0 e;omega
theorem vg {l:List (Int × Int)} (h:eD l=true) : ∀ s∈l,0<=s.1:=by
 obtain ⟨h1,_,h3,h4⟩:=jc h
 intro s hs
 obtain ⟨i,hi,e⟩:=List.mem_iff_getElem.1 hs
 have hpos:0<l.length:=by omega
 have h0:=h4 l[0] (ap9 hpos)
 by_cases e0:i=0
 ·subst e0;rw [<- e];omega
 ·have:=h1 0 i _ _ (by omega) (ap9 hpos) (ap9 hi)
  rw [e] at this;omega
theorem of_ok (l:List ((Int × Int) × Int)):eD (dW (qp l) (iM l))=true /\ ∀ t,0<=t->t<1099511627776->y7 (dW (qp l) (iM l)) t=qp l t:=by
 obtain ⟨h1,h2⟩:=jY l
 have hnn : ∀ p∈iM l,0<=p:=by
  intro p hp
  rcases ((h2 p).1 hp).1 with e|⟨y,hy⟩
  ·omega
  ·exact (JU (p,y) hy).1
 have h0:(iM l).head?=some 0:=Ro h1 ((h2 0).2 ⟨.inl rfl,by omega⟩) hnn
 have hF : ∀ p∈iM l,p<1099511627776:=fun p hp=>((h2 p).1 hp).2
 have hC:ahU (qp l) (iM l):=by
  intro t p t1 t2 hp hpt hmax
  rw [y8,y8]
  congr 1
  unfold vB
  congr 1
  refine List.map_congr_left fun c hc=>?_
  have hiff:bC c.1 t=bC c.1 p:=by
   unfold bC
   by_cases hv:a_ c.1=true
   ·have hm : ∀ q,q=c.1.1\/q=c.1.2->q<=t->q<=p:=by
     intro q hq hqt
     refine hmax q ((h2 q).2 ⟨.inr ?_,by omega⟩) hqt
     rcases hq with e|e
     ·exact ⟨c.2,List.mem_flatMap.2 ⟨c,hc,by unfold ql;rw [if_pos hv];simp [e]⟩⟩
     ·exact ⟨wrap64 (-c.2),List.mem_flatMap.2 ⟨c,hc,by unfold ql;rw [if_pos hv];simp [e]⟩⟩
    have m1:=hm c.1.1 (.inl rfl)
    have m2:=hm c.1.2 (.inr rfl)
    rw [hv,aqx,aqx,Bool.eq_iff_iff]
    simp only [aqg,decide_eq_true_eq]
    constructor
    ·rintro ⟨u1,u2⟩;exact ⟨m1 u1,by omega⟩
    ·rintro ⟨u1,u2⟩
     refine ⟨by omega,Int.not_le.1 fun hh=>?_⟩
     have:=m2 hh;omega
   ·have:a_ c.1=false:=by simpa using hv
    rw [this];simp
  rw [hiff]
 exact ⟨(JV _ h1 h0 hF).1,fun t t1 t2=>Ws _ h1 h0 hF hC t1 t2⟩
def cnt (X:List (Int × Int)) (t:Int):Int:=(X.map fun p=>if bC p t then (1:Int) else 0).sum
theorem zD (X Y:List (Int × Int)) (t:Int):cnt (X++Y) t=cnt X t+cnt Y t:=by simp [cnt]
theorem T_ {a b t:Int} (h0:0<=a) (h1:a<b) (h2:b<=1099511627776):cnt [(a,b)] t=if a<=t/\t<b then 1 else 0:=by
 have hv:a_ (a,b)=true:=by simp [a_];omega
 simp [cnt,bC,hv]
theorem Od (n t v:Int) (out:List (Int × Int)) {a b:Int} (h0:0<=a) (h1:a<b) (h2:b<=1099511627776) (hout : ∀ q∈out,a_ q=true/\q.2<=a) :
  (∀ q∈eY n out ((a,b),v),a_ q=true/\q.2<=b)/\cnt (eY n out ((a,b),v)) t=cnt out t+(if n<=v/\a<=t/\t<b then 1 else 0):=by
 have hv:a_ (a,b)=true:=by simp [a_];omega
 have happ:(∀ q∈out++[(a,b)],a_ q=true/\q.2<=b)/\cnt (out++[(a,b)]) t=cnt out t+(if a<=t/\t<b then 1 else 0):=by
  refine ⟨fun q hq=>?_,by rw [zD,T_ h0 h1 h2]⟩
  rcases aqr.1 hq with e|e
  ·have:=hout q e;exact ⟨this.1,by omega⟩
  ·simp at e;subst e;exact ⟨hv,Int.le_refl _⟩
 unfold eY
 by_cases hn:n<=v
 ·rw [if_pos hn]
  simp only [hn,true_and]
  unfold jV
  split
  ·rename_i q hq
   split
   ·rename_i hle
    have hmem:q∈out:=List.mem_of_getLast? hq
    obtain ⟨hq1,hq2⟩:=hout q hmem
    have hle':a<=q.2:=hle
    have hqe:q.2=a:=by omega
    have hsp:out=out.dropLast++[q]:=by
     have hne:out≠[]:=by intro e;rw [e] at hmem;simp at hmem
     rw [List.getLast?_eq_some_getLast hne] at hq
     injection hq with hq
     rw [<- hq];exact (List.dropLast_concat_getLast hne).symm
    have hqv:0<=q.1/\q.1<q.2/\q.2<=1099511627776:=by simp [a_] at hq1;omega
    have hm:max q.2 b=b:=by omega
    show (∀ x∈out.dropLast++[(q.1,max q.2 b)],a_ x=true/\x.2<=b)/\cnt (out.dropLast++[(q.1,max q.2 b)]) t=_
    rw [hm]
    refine ⟨fun x hx=>?_,?_⟩
    ·rcases aqr.1 hx with e|e
     ·have:=hout x (List.dropLast_subset _ e);exact ⟨this.1,by omega⟩
     ·simp at e;subst e;exact ⟨by simp [a_];omega,Int.le_refl _⟩
    ·have e1:cnt out t=cnt out.dropLast t+cnt [(q.1,q.2)] t:=by rw [<- zD];exact congrArg (cnt · t) hsp
     rw [e1,zD,T_ hqv.1 (by omega) h2,T_ hqv.1 hqv.2.1 hqv.2.2]
     split<;>split<;>split<;>omega
   ·exact happ
  ·exact happ
 ·rw [if_neg hn]
  refine ⟨fun q hq=>?_,by simp [hn]⟩
  have:=hout q hq;exact ⟨this.1,by omega⟩
theorem Yg (n t:Int) (ht:t<1099511627776) : ∀ (r:List (Int × Int)) (x:Int × Int) (out:List (Int × Int)),0<=x.1->(x::r).Pairwise (fun p q=>p.1<q.1)->(∀ s∈x::r,s.1<1099511627776)->(∀ q∈out,a_ q=true/\q.2<=x.1) ->
  cnt ((ul (x::r)).foldl (eY n) out) t=cnt out t+(if x.1<=t/\n<=ik x.2 r t then 1 else 0)
 | [],x,out,h0,_,hM,hout=>by
  have:=(Od n t x.2 out h0 (hM x (by simp)) (Int.le_refl _) hout).2
  simp only [ul,aqP,List.foldl_nil,this]
  have e:ik x.2 [] t=x.2:=rfl
  rw [e]
  split<;>split<;>omega
 | y::r,x,out,h0,hp,hM,hout=>by
  have hxy:x.1<y.1:=(aqV.1 hp).1 y (by simp)
  have hy:=(aqV.1 hp).2
  obtain ⟨h1,h2⟩:=Od n t x.2 out h0 hxy (by have:=hM y (by simp);omega) hout
  have ih:=Yg n t ht r y _ (by omega) hy (fun s hs=>hM s (aqm _ hs)) h1
  have e:ul (x::y::r)=((x.1,y.1),x.2)::ul (y::r):=rfl
  rw [e,aqP,ih,h2,dz]
  by_cases hyt:y.1<=t
  ·rw [if_pos hyt]
   split<;>split<;>split<;>omega
  ·rw [if_neg hyt]
   have e2:ik x.2 r t=x.2:=il fun q hq=>by have:=(aqV.1 hy).1 q hq;omega
   rw [e2]
   split<;>split<;>split<;>omega
theorem aja {l:List (Int × Int)} (h:eD l=true) (n t:Int) (h1:0<=t) (h2:t<1099511627776):cnt (Lt l n) t=if n<=y7 l t then 1 else 0:=by
 match l,h with
 | p::r,h =>
  have ha:=jc h
  have hp0:p.1=0:=ha.2.2.2 p rfl
  simp only [eD,aqg] at h
  have hv:=eT h.2
  have:=Yg n t h2 r p [] (by omega) hv.1 ha.2.1 (by simp)
  unfold Lt
  rw [this,Bh h1 h2,dz,if_pos (show p.1<=t by omega)]
  have e:cnt [] t=0:=rfl
  rw [e]
  simp [hp0,h1]
theorem Sk {l:List (Int × Int)} (h:eD l=true) (t:Int) (h1:0<=t) (h2:t<1099511627776) (h3:0<=y7 l t) : ∀ k:Nat,cnt (mJ l k) t=if (k:Int)<=y7 l t then (k:Int) else y7 l t
 | 0=>by
  have e:cnt (mJ l 0) t=0:=rfl
  rw [e];split<;>omega
 | k+1=>by
  rw [zC,zD,Sk h t h1 h2 h3 k,aja h _ t h1 h2]
  split<;>split<;>split<;>omega
theorem agp {a b:List (Int × Int)} (h:a.Perm b) (t:Int):cnt a t=cnt b t:=by
 unfold cnt
 induction h with
 | nil=>rfl
 | cons x _ ih=>simp only [ap',List.sum_cons,ih]
 | swap x y l=>simp only [ap',List.sum_cons];omega
 | trans _ _ ih1 ih2=>exact ih1.trans ih2
theorem YQ {l:List (Int × Int)} (h:eD l=true) (t:Int) (h1:0<=t) (h2:t<1099511627776) (h3:0<=y7 l t) (h4:y7 l t<=600):cnt (wH l) t=y7 l t:=by
 have hp:(wH l).Perm (mJ l 600):=by
  have h0:=(qU (nC l) [] .nil).2
  rw [ap5] at h0
  have e:nC l=mJ l 600:=by unfold nC mJ;rfl
  rw [<- e];exact h0
 rw [agp hp,Sk h t h1 h2 h3]
 split<;>omega
def J_ (X:List (Int × Int)):List ((Int × Int) × Int):=X.map fun p=>(p,1)
theorem zq (X:List (Int × Int)) (t:Int):vB (J_ X) t=cnt X t:=by
 unfold vB J_ cnt;rw [List.map_map];rfl
end Go.Proofs.YtlcceppoloaecaaGreatDoor.St
namespace Go.Proofs.YtlcceppoloaecaaGreatDoor
open Go.RowKit
def aY (p:aP) (t:Int):Bool:=St.bC (toP p) t
theorem uf (p:aP) (t:Int):aY p t=(St.a_ (toP p)&&(decide (p.lo<=t)&&decide (t<p.hi))):=Bool.and_assoc _ _ _
def fe (ps:List aP) (t:Int):Nat:=(ps.filter fun p=>aY p t).length
theorem Ll (ps:List aP) (t:Int):St.cnt (ps.map toP) t=(fe ps t:Int):=by
 unfold St.cnt fe
 induction ps with
 | nil=>rfl
 | cons p ps ih =>
  rw [ap',ap',List.sum_cons,ih,List.filter_cons]
  unfold aY
  by_cases h:St.bC (toP p) t=true
  ·rw [if_pos h,if_pos h,aqk];omega
  ·rw [if_neg h,if_neg h];omega
theorem gU (p:aP) (ps:List aP) (t:Int):fe (p::ps) t=(if aY p t=true then 1 else 0)+fe ps t:=by
 unfold fe
 rw [List.filter_cons]
 split<;>simp<;>omega
theorem Zi {p:aP} {t:Int} (h:aY p t=true):0<=t/\t<1099511627776:=by
 unfold aY St.bC St.a_ at h
 simp only [aqg,decide_eq_true_eq] at h
 omega
theorem MI {t:Int} (h : ¬(0<=t/\t<1099511627776)) (ps:List aP):fe ps t=0:=by
 unfold fe
 rw [aqA,List.filter_eq_nil_iff]
 exact fun p _ hp=>h (Zi hp)
theorem acf (ps:List aP) (t:Int):fe ps t<=ps.length:=List.length_filter_le _ _
def gK (ps:List aP):List (Int × Int):=St.VT ((ones ps).map toC)
theorem TW (ps:List aP):(ones ps).map toC=St.J_ (ps.map toP):=by
 unfold ones St.J_
 rw [List.map_map,List.map_map];rfl
theorem ac6 (ps:List aP):(cK ps).map toP=St.wH (gK ps):=by
 unfold cK Jr DL gK
 rw [List.map_map,List.map_map]
 have e1:(toP∘ofP)=id:=by funext x;rfl
 have e2:(toS∘ofS)=id:=by funext x;rfl
 rw [e1,e2,List.map_id,List.map_id]
theorem mW (ps:List aP):St.eD (gK ps)=true:=(St.of_ok _).1
theorem SQ (ps:List aP) (hn:ps.length<=300) (t:Int):St.y7 (gK ps) t=(fe ps t:Int):=by
 by_cases h:0<=t/\t<1099511627776
 ·rw [show gK ps=St.dW (St.qp ((ones ps).map toC)) (St.iM ((ones ps).map toC)) from rfl,(St.of_ok _).2 t h.1 h.2,St.wR t (AO ps) (by simp [ones];omega),TW,St.zq,Ll]
 ·rw [St.ajg h,MI h];rfl
theorem uG (ps:List aP) (hn:ps.length<=300) (t:Int):0<=St.y7 (gK ps) t/\St.y7 (gK ps) t<=600:=by
 have:=SQ ps hn t
 have:=acf ps t
 omega
theorem GM (ps:List aP) (hn:ps.length<=300) (t:Int):fe (cK ps) t=fe ps t:=by
 by_cases h:0<=t/\t<1099511627776
 ·have h1:=Ll (cK ps) t
  rw [ac6,St.YQ (mW ps) t h.1 h.2 (uG ps hn t).1 (uG ps hn t).2,SQ ps hn] at h1
  omega
 ·rw [MI h,MI h]
def K_ (ps:List aP) (x:Int):Nat:=(ps.filter fun p=>St.a_ (toP p)&&decide (p.lo<=x)).length
theorem v_ (p:aP) (ps:List aP) (t:Int):K_ (p::ps) t=(if (St.a_ (toP p)&&decide (p.lo<=t))=true then 1 else 0)+K_ ps t:=by
 unfold K_
 rw [List.filter_cons]
 split<;>simp<;>omega
theorem Xo {x y:Int} (h:x<y) : ∀ ps:List aP,fe ps y+K_ ps x<=fe ps x+K_ ps y
 | []=>by simp [fe,K_]
 | p::ps=>by
  have ih:=Xo h ps
  rw [gU,gU,v_,v_]
  have:(if aY p y=true then 1 else 0)+(if (St.a_ (toP p)&&decide (p.lo<=x))=true then 1 else 0)<=(if aY p x=true then 1 else 0)+(if (St.a_ (toP p)&&decide (p.lo<=y))=true then 1 else 0):=by
   rw [uf,uf]
   cases hv:St.a_ (toP p)
   ·simp
   ·simp only [aqx,aqg,decide_eq_true_eq]
    split<;>split<;>split<;>split<;>omega
  omega
theorem ai2 (ps:List aP) (x:Int):fe ps x<=K_ ps x:=by
 induction ps with
 | nil=>simp [fe,K_]
 | cons p ps ih =>
  rw [gU,v_]
  have:(if aY p x=true then 1 else 0)<=(if (St.a_ (toP p)&&decide (p.lo<=x))=true then 1 else 0):=by
   rw [uf]
   cases hv:St.a_ (toP p)
   ·simp
   ·simp only [aqx,aqg,decide_eq_true_eq]
    split<;>split<;>omega
  omega
theorem afV {x y:Int} (h:x<=y) (ps:List aP):K_ ps x<=K_ ps y:=by
 induction ps with
 | nil=>simp [K_]
 | cons p ps ih =>
  rw [v_,v_]
  have:(if (St.a_ (toP p)&&decide (p.lo<=x))=true then 1 else 0)<=(if (St.a_ (toP p)&&decide (p.lo<=y))=true then 1 else 0):=by
   cases hv:St.a_ (toP p)
   ·simp
   ·simp only [aqx,decide_eq_true_eq]
    split<;>split<;>omega
  omega
theorem R7 {l:List (Int × Int)} (ps:List aP) (ha:St.Asc l) (hF : ∀ s∈l,0<=s.1/\s.1<1099511627776) (hy : ∀ s∈l,s.2=(fe ps s.1:Int)) : ∀ k,k<=l.length ->
  (∀ q∈(St.pU l k).2,St.a_ q=true)/\(∀ f∈(St.pU l k).1,0<=f/\f<1099511627776 /\ ∃ (j:Nat) (y:Int),j<k/\l[j]?=some (f,y)) /\
  ((k=0/\(St.pU l k).1=[]/\(St.pU l k).2=[]) \/ ∃ x y,l[k-1]?=some (x,y)/\0<k/\(St.pU l k).1.length=fe ps x/\(St.pU l k).2.length+(St.pU l k).1.length<=K_ ps x)
 | 0,_=>⟨fun q hq=>(by cases hq),fun f hf=>(by cases hf), .inl ⟨rfl,rfl,rfl⟩⟩
 | k+1,hk=>by
  obtain ⟨h1,h2,h3⟩:=R7 ps ha hF hy k (by omega)
  have hx:l[k]?=some (l[k]'(by omega)):=ap9 (by omega)
  generalize l[k]'(by omega)=p at hx
  obtain ⟨x,y⟩:=p
  have hm:=ap6 hx
  have hxF:=hF _ hm
  have hxy:y=(fe ps x:Int):=hy _ hm
  rw [St.xN hx]
  have hc:St.rM y=fe ps x:=by
   unfold St.rM
   rw [hxy]
   split<;>omega
  unfold St.FP
  dsimp only
  rw [hc]
  refine ⟨fun q hq=>?_,fun f hf=>?_, .inr ⟨x,y,by simpa using hx,by omega,St.wI _ _ _,?_⟩⟩
  ·rcases aqr.1 hq with hq|hq
   ·exact h1 q hq
   ·obtain ⟨f,hf,rfl⟩:=aqz.1 hq
    obtain ⟨f1,f2,j,z,hj,hz⟩:=h2 f (List.mem_of_mem_drop hf)
    have:=ha j k _ _ hj hz hx
    show St.a_ (f,x)=true
    unfold St.a_
    simp only [aqg,decide_eq_true_eq]
    dsimp only at this hxF
    omega
  ·unfold St.Hw at hf
   rcases aqr.1 hf with hf|hf
   ·obtain ⟨f1,f2,j,z,hj,hz⟩:=h2 f (aqW hf)
    exact ⟨f1,f2,j,z,by omega,hz⟩
   ·obtain ⟨_,rfl⟩:=List.mem_replicate.1 hf
    exact ⟨hxF.1,hxF.2,k,y,by omega,hx⟩
  ·rw [St.wI,ap8,aqa,List.length_drop]
   rcases h3 with ⟨_,e1,e2⟩|⟨x0,y0,hx0,hk0,e1,e2⟩
   ·rw [e1,e2]
    have:=ai2 ps x
    simp only [aqu]
    omega
   ·have hlt:=ha (k-1) k _ _ (by omega) hx0 hx
    dsimp only at hlt
    have b1:=Xo hlt ps
    have b2:=afV (Int.le_of_lt hlt) ps
    omega
theorem MH (ps:List aP) (hn:ps.length<=300):(St.Ux (gK ps)).length<=ps.length /\ ∀ q∈St.Ux (gK ps),St.a_ q=true:=by
 obtain ⟨ha,hF,hne,_⟩:=St.jc (mW ps)
 have hnn:=St.vg (mW ps)
 have hy : ∀ s∈gK ps,s.2=(fe ps s.1:Int):=by
  intro s hs
  have h:=((St.Oj ((ones ps).map toC)).2 s hs).2
  rw [h,St.wR s.1 (AO ps) (by simp [ones];omega),TW,St.zq,Ll]
 obtain ⟨h1,h2,h3⟩:=R7 ps ha (fun s hs=>⟨hnn s hs,hF s hs⟩) hy (gK ps).length (aqe _)
 unfold St.Ux
 refine ⟨?_,fun q hq=>?_⟩
 ·rw [ap8,aqa]
  rcases h3 with ⟨_,e1,e2⟩|⟨x,y,_,_,_,e2⟩
  ·rw [e1,e2];exact aqj _
  ·exact Nat.le_trans e2 (List.length_filter_le _ _)
 ·rcases aqr.1 hq with hq|hq
  ·exact h1 q hq
  ·obtain ⟨f,hf,rfl⟩:=aqz.1 hq
   obtain ⟨f1,f2,_⟩:=h2 f hf
   show St.a_ (f,1099511627776)=true
   unfold St.a_
   simp only [aqg,decide_eq_true_eq]
   omega
theorem Gm (ps:List aP) (hn:ps.length<=300):((cK ps).map toP).Perm (St.Ux (gK ps)):=by
 obtain ⟨ha,hF,_,_⟩:=St.jc (mW ps)
 have hM : ∀ s∈gK ps,s.2<=600:=by
  intro s hs
  have h:=((St.Oj ((ones ps).map toC)).2 s hs).2
  rw [h,St.wR s.1 (AO ps) (by simp [ones];omega),TW,St.zq,Ll]
  have:=acf ps s.1
  omega
 rw [ac6]
 have h0:=(St.qU (St.nC (gK ps)) [] .nil).2
 rw [ap5] at h0
 exact h0.trans (St.Re ha hF hM).symm
theorem ada (ps:List aP) (hn:ps.length<=300):(cK ps).length<=ps.length:=by
 have:=(Gm ps hn).length_eq
 rw [aqa] at this
 rw [this];exact (MH ps hn).1
theorem mX (ps:List aP) (hn:ps.length<=300) : ∀ p∈cK ps,St.a_ (toP p)=true:=fun p hp =>
 (MH ps hn).2 _ ((Gm ps hn).subset (List.mem_map_of_mem hp))
def Apart (p q:aP):Prop:=p.hi<q.lo\/q.hi<p.lo\/(p.lo<=q.lo/\q.hi<=p.hi)\/(q.lo<=p.lo/\p.hi<=q.hi)
def Lam (L:List aP):Prop := ∀ p∈L, ∀ q∈L,Apart p q
def z8 (p:aP):Prop:=0<=p.lo/\p.lo<p.hi/\p.hi<=1099511627776
theorem Ji (p:aP):St.a_ (toP p)=true↔z8 p:=by
 unfold St.a_ z8 toP
 simp only [aqg,decide_eq_true_eq]
 omega
theorem eO {p:aP} (h:z8 p) (t:Int):aY p t=true↔p.lo<=t/\t<p.hi:=by
 rw [uf,(Ji p).2 h,aqx,aqg,decide_eq_true_eq,decide_eq_true_eq]
theorem cnt_mono {s t:Int} : ∀ L:List aP,(∀ p∈L,aY p s=true->aY p t=true)->fe L s<=fe L t
 | [],_=>aqe _
 | p::L,h=>by
  have ih:=cnt_mono L fun q hq=>h q (aqm _ hq)
  have h0:=h p (aqM ..)
  rw [gU,gU]
  by_cases hs:aY p s=true
  ·rw [if_pos hs,if_pos (h0 hs)];omega
  ·rw [if_neg hs];omega
theorem xH (A B:List aP) (t:Int):fe (A++B) t=fe A t+fe B t:=by
 unfold fe;rw [List.filter_append,ap8]
theorem cnt_lt {s t:Int} {L:List aP} (h : ∀ p∈L,aY p s=true->aY p t=true) {q:aP} (hq:q∈L) (h1:aY q t=true) (h2:aY q s=false):fe L s<fe L t:=by
 obtain ⟨A,B,rfl⟩:=List.append_of_mem hq
 have hA:=cnt_mono A fun p hp=>h p (by simp [hp])
 have hB:=cnt_mono B fun p hp=>h p (by simp [hp])
 rw [xH,xH,gU,gU,if_pos h1,if_neg (by rw [h2];decide)]
 omega
theorem ahn {s t:Int} {L:List aP} (h:fe L s<fe L t) : ∃ q∈L,aY q t=true/\aY q s=false:=by
 apply Classical.byContradiction
 intro hn
 have:=cnt_mono (s:=t) (t:=s) L fun p hp h1=>by
  cases h2:aY p s
  ·exact absurd ⟨p,hp,h1,h2⟩ hn
  ·rfl
 omega
theorem agL : ∀ L:List aP,L≠[] -> ∃ p∈L, ∀ q∈L,p.hi-p.lo<=q.hi-q.lo
 | [],h=>absurd rfl h
 | p::L,_=>by
  by_cases hL:L=[]
  ·subst hL
   exact ⟨p,aqM .., fun q hq=>by simp at hq;subst hq;omega⟩
  ·obtain ⟨m,hm,h⟩:=agL L hL
   by_cases hpm:p.hi-p.lo<=m.hi-m.lo
   ·exact ⟨p,aqM .., fun q hq=>by
     rcases aqf.1 hq with rfl|hq
     ·omega
     ·have:=h q hq;omega⟩
   ·exact ⟨m,aqm _ hm,fun q hq=>by
     rcases aqf.1 hq with rfl|hq
     ·omega
     ·exact h q hq⟩
theorem U_ {p q:aP} (h1:p.lo=q.lo) (h2:p.hi=q.hi):p=q:=by
 cases p;cases q;simp_all
theorem falls {M:List aP} (hM:Lam M) (vM : ∀ p∈M,z8 p) {q:aP} (hq:q∈M):fe M q.hi<fe M (q.hi-1):=by
 have vq:=vM q hq
 unfold z8 at vq
 refine cnt_lt (fun s hs h=>?_) hq ((eO (vM q hq) _).2 (by omega)) ?_
 ·have vs:=vM s hs
  have ha:=hM q hq s hs
  rw [eO vs] at h ⊢
  unfold z8 at vs
  unfold Apart at ha
  omega
 ·cases h:aY q q.hi
  ·rfl
  ·have:=(eO (vM q hq) _).1 h
   omega
theorem rises {M:List aP} (hM:Lam M) (vM : ∀ p∈M,z8 p) {q:aP} (hq:q∈M):fe M (q.lo-1)<fe M q.lo:=by
 have vq:=vM q hq
 unfold z8 at vq
 refine cnt_lt (fun s hs h=>?_) hq ((eO (vM q hq) _).2 (by omega)) ?_
 ·have vs:=vM s hs
  have ha:=hM q hq s hs
  rw [eO vs] at h ⊢
  unfold z8 at vs
  unfold Apart at ha
  omega
 ·cases h:aY q (q.lo-1)
  ·rfl
  ·have:=(eO (vM q hq) _).1 h
   omega
theorem Qa : ∀ (n:Nat) (L M:List aP),L.length=n->Lam L->Lam M->(∀ p∈L,z8 p)->(∀ p∈M,z8 p)->(∀ t,fe L t=fe M t)->L.Perm M
 | 0,L,M,hn,_,_,_,vM,hc=>by
  obtain rfl:=aqA.1 hn
  cases M with
  | nil=>exact .nil
  | cons q M =>
   have vq:=vM q (aqM ..)
   have h:=hc q.lo
   rw [gU,if_pos ((eO vq _).2 (by unfold z8 at vq;omega))] at h
   simp [fe] at h
   omega
 | n+1,L,M,hn,hL,hM,vL,vM,hc=>by
  obtain ⟨p,hp,hmin⟩:=agL L (by intro e;rw [e] at hn;simp at hn)
  have vp:=vL p hp
  have vp':=vp
  unfold z8 at vp'
  have sup : ∀ q∈L, ∀ t,p.lo<=t->t<p.hi->aY q t=true->q.lo<=p.lo/\p.hi<=q.hi:=by
   intro q hq t h1 h2 h3
   rw [eO (vL q hq)] at h3
   have ha:=hL p hp q hq
   have hm:=hmin q hq
   unfold Apart at ha
   omega
  have const : ∀ s t,p.lo<=s->s<p.hi->p.lo<=t->t<p.hi->fe L s<=fe L t:=by
   intro s t h1 h2 h3 h4
   refine cnt_mono L fun q hq h=>?_
   have:=sup q hq s h1 h2 h
   rw [eO (vL q hq)]
   omega
  have r1:=rises hL vL hp
  have f1:=falls hL vL hp
  rw [hc,hc] at r1 f1
  obtain ⟨q,hq,q1,q2⟩:=ahn r1
  obtain ⟨r,hr,e1,e2⟩:=ahn f1
  have vq:=vM q hq
  have vr:=vM r hr
  have vq':=vq
  have vr':=vr
  unfold z8 at vq' vr'
  rw [eO vq] at q1
  rw [eO vr] at e1
  have q3 : ¬ (q.lo<=p.lo-1/\p.lo-1<q.hi):=fun h=>by rw [(eO vq _).2 h] at q2;cases q2
  have e3 : ¬ (r.lo<=p.hi/\p.hi<r.hi):=fun h=>by rw [(eO vr _).2 h] at e2;cases e2
  have q4:p.hi<=q.hi:=by
   apply Classical.byContradiction
   intro hlt
   have f2:=falls hM vM hq
   have:=const (q.hi-1) q.hi (by omega) (by omega) (by omega) (by omega)
   rw [hc,hc] at this
   omega
  have e4:r.lo<=p.lo:=by
   apply Classical.byContradiction
   intro hlt
   have f2:=rises hM vM hr
   have:=const r.lo (r.lo-1) (by omega) (by omega) (by omega) (by omega)
   rw [hc,hc] at this
   omega
  have hpM:p∈M:=by
   have ha:=hM q hq r hr
   unfold Apart at ha
   rcases ha with h|h|h|h
   ·omega
   ·omega
   ·rw [show p=r from U_ (by omega) (by omega)];exact hr
   ·rw [show p=q from U_ (by omega) (by omega)];exact hq
  obtain ⟨A,B,rfl⟩:=List.append_of_mem hp
  obtain ⟨C,D,rfl⟩:=List.append_of_mem hpM
  have sL : ∀ x∈A++B,x∈A++p::B:=fun x hx=>by simp at hx ⊢;rcases hx with h|h<;>simp [h]
  have sM : ∀ x∈C++D,x∈C++p::D:=fun x hx=>by simp at hx ⊢;rcases hx with h|h<;>simp [h]
  have ih:=Qa n (A++B) (C++D) (by simp at hn ⊢;omega) (fun x hx y hy=>hL x (sL x hx) y (sL y hy)) (fun x hx y hy=>hM x (sM x hx) y (sM y hy)) (fun x hx=>vL x (sL x hx)) (fun x hx=>vM x (sM x hx)) (fun t=>by
   have:=hc t
   rw [xH,xH,gU,gU] at this
   rw [xH,xH]
   omega)
  exact List.perm_middle.trans ((ih.cons p).trans List.perm_middle.symm)
def ApS (p q:Int × Int):Prop:=p.2<q.1\/q.2<p.1\/(p.1<=q.1/\q.2<=p.2)\/(q.1<=p.1/\p.2<=q.2)
structure Stk (E:List Int) (out:List (Int × Int)) (x:Int):Prop where
 asc:E.Pairwise (· <= ·)
 out2 : ∀ p∈out, ∀ q∈out,ApS p q
 fin : ∀ p∈out,p.2<=x/\p.1<p.2
 opn : ∀ f∈E,f<=x /\ ∀ q∈out,f<=q.1\/q.2<f
theorem Stk.pop {E:List Int} {out:List (Int × Int)} {x y:Int} (h:Stk E out x) (hxy:x<y) (c:Nat) :
  (∀ p∈out++(E.drop c).map (fun f=>(f,y)), ∀ q∈out++(E.drop c).map (fun f=>(f,y)),ApS p q)/\(∀ p∈out++(E.drop c).map (fun f=>(f,y)),p.2<=y/\p.1<p.2):=by
 have key : ∀ p∈out, ∀ f∈E.drop c,ApS p (f,y)/\ApS (f,y) p:=by
  intro p hp f hf
  have h1:=(h.opn f (List.mem_of_mem_drop hf)).2 p hp
  have h2:=h.fin p hp
  unfold ApS
  dsimp only
  omega
 have two : ∀ f∈E.drop c, ∀ g∈E.drop c,ApS (f,y) (g,y):=by
  intro f _ g _
  unfold ApS
  dsimp only
  omega
 refine ⟨fun p hp q hq=>?_,fun p hp=>?_⟩
 ·rcases aqr.1 hp with hp|hp<;>rcases aqr.1 hq with hq|hq
  ·exact h.out2 p hp q hq
  ·obtain ⟨f,hf,rfl⟩:=aqz.1 hq
   exact (key p hp f hf).1
  ·obtain ⟨f,hf,rfl⟩:=aqz.1 hp
   exact (key q hq f hf).2
  ·obtain ⟨f,hf,rfl⟩:=aqz.1 hp
   obtain ⟨g,hg,rfl⟩:=aqz.1 hq
   exact two f hf g hg
 ·rcases aqr.1 hp with hp|hp
  ·have:=h.fin p hp;omega
  ·obtain ⟨f,hf,rfl⟩:=aqz.1 hp
   have:=(h.opn f (List.mem_of_mem_drop hf)).1
   dsimp only
   omega
theorem Stk.next {E:List Int} {out:List (Int × Int)} {x y:Int} (h:Stk E out x) (hxy:x<y) (c:Nat):Stk (St.Hw E y c) (out++(E.drop c).map fun f=>(f,y)) y:=by
 obtain ⟨h1,h2⟩:=h.pop hxy c
 unfold St.Hw
 refine ⟨?_,h1,h2,fun f hf=>?_⟩
 ·rw [List.pairwise_append]
  refine ⟨h.asc.sublist (List.take_sublist _ _),List.pairwise_replicate.2 (.inr (Int.le_refl _)),fun a ha b hb=>?_⟩
  obtain ⟨_,rfl⟩:=List.mem_replicate.1 hb
  have:=(h.opn a (aqW ha)).1
  omega
 ·rcases aqr.1 hf with hf|hf
  ·have h3:=h.opn f (aqW hf)
   refine ⟨by omega,fun q hq=>?_⟩
   rcases aqr.1 hq with hq|hq
   ·exact h3.2 q hq
   ·obtain ⟨g,hg,rfl⟩:=aqz.1 hq
    have hs:(E.take c++E.drop c).Pairwise (· <= ·):=by rw [aqK];exact h.asc
    exact .inl ((List.pairwise_append.1 hs).2.2 f hf g hg)
  ·obtain ⟨hc,rfl⟩:=List.mem_replicate.1 hf
   refine ⟨Int.le_refl _,fun q hq=>?_⟩
   rcases aqr.1 hq with hq|hq
   ·have:=(h.fin q hq).1;exact .inr (by omega)
   ·rw [List.drop_eq_nil_of_le (by omega)] at hq
    cases hq
theorem XP {l:List (Int × Int)} (ha:St.Asc l) : ∀ k,k<=l.length->(k=0/\St.pU l k=([],[])) \/ ∃ x y,l[k-1]?=some (x,y)/\0<k/\Stk (St.pU l k).1 (St.pU l k).2 x
 | 0,_ => .inl ⟨rfl,rfl⟩
 | k+1,hk=>by
  have ih:=XP ha k (by omega)
  have hx:l[k]?=some (l[k]'(by omega)):=ap9 (by omega)
  generalize l[k]'(by omega)=p at hx
  obtain ⟨x,y⟩:=p
  refine .inr ⟨x,y,by simpa using hx,by omega,?_⟩
  rw [St.xN hx]
  unfold St.FP
  dsimp only
  rcases ih with ⟨_,e⟩|⟨x0,y0,hx0,hk0,h⟩
  ·rw [e]
   exact Stk.next (x:=x-1) ⟨.nil,fun p hp=>(by cases hp),fun p hp=>(by cases hp),fun f hf=>(by cases hf)⟩ (by omega) _
  ·exact h.next (by have:=ha (k-1) k _ _ (by omega) hx0 hx;exact this) _
theorem aiO {l:List (Int × Int)} (ha:St.Asc l) (hF : ∀ s∈l,s.1<1099511627776) : ∀ p∈St.Ux l, ∀ q∈St.Ux l,ApS p q:=by
 unfold St.Ux
 rcases XP ha l.length (aqe _) with ⟨_,e⟩|⟨x,y,hx,hk,h⟩
 ·rw [e];intro p hp;cases hp
 ·have:=h.pop (y:=1099511627776) (hF _ (ap6 hx)) 0
  rw [List.drop_zero] at this
  exact this.1
theorem LK (ps:List aP) (hn:ps.length<=300):Lam (cK ps):=by
 obtain ⟨ha,hF,_,_⟩:=St.jc (mW ps)
 intro p hp q hq
 have h:=aiO ha hF _ ((Gm ps hn).subset (List.mem_map_of_mem hp)) _ ((Gm ps hn).subset (List.mem_map_of_mem hq))
 exact h
theorem yR (ps:List aP):(cK ps).Pairwise fun p q=>St.gL (toP p) (toP q):=by
 have h:=(St.qU (St.nC (gK ps)) [] .nil).1
 have e:(cK ps).map toP=(St.nC (gK ps)).foldl St.jJ []:=ac6 ps
 rw [<- e,List.pairwise_map] at h
 exact h
theorem Ey : ∀ {l m:List aP}, (l.Pairwise fun p q=>St.gL (toP p) (toP q))->(m.Pairwise fun p q=>St.gL (toP p) (toP q))->l.Perm m->l=m
 | [],m,_,_,h=>(List.Perm.nil_eq h)
 | p::l,[],_,_,h=>absurd h.length_eq (by simp)
 | p::l,q::m,hl,hm,h=>by
  have hp:p∈q::m:=h.subset (aqM ..)
  have hq:q∈p::l:=h.symm.subset (aqM ..)
  have e:p=q:=by
   rcases aqf.1 hp with e|hp
   ·exact e
   ·rcases aqf.1 hq with e|hq
    ·exact e.symm
    ·have h1:=List.rel_of_pairwise_cons hl hq
     have h2:=List.rel_of_pairwise_cons hm hp
     unfold St.gL toP at h1 h2
     dsimp only at h1 h2
     exact U_ (by omega) (by omega)
  subst e
  rw [Ey (List.Pairwise.of_cons hl) (List.Pairwise.of_cons hm) ((List.perm_cons p).1 h)]
end Go.Proofs.YtlcceppoloaecaaGreatDoor
