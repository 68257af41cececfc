/- Parts of the proof, joined. No condition. -/
import Derived.Test.YtcehmafobkhdbaaGreatDoorKAR
set_option linter.unusedSimpArgs false
set_option linter.unusedVariables false
namespace Go.Proofs.YtcehmafobkhdbaaGreatDoor.St
open Go.RowKit
theorem iL {α β:Type} {l:List α} {g:β->α->β} {b:β} {k:Nat} {x:α} (hx:l[k]?=some x):(l.take (k+1)).foldl g b=g ((l.take k).foldl g b) x:=by
 rw [List.take_add_one,hx]
 simp
def H_ (a b:Int):Int:=if a<b then -1 else if b<a then 1 else 0
def Parts (l:List (Int × Int)) (t:Int) (i j:Nat):Prop:=(∀ q x,q<i->l[q]?=some x->x.1<t)/\(∀ q x,j<=q->l[q]?=some x->t<=x.1)
def Asc (l:List (Int × Int)):Prop := ∀ (i j:Nat) (x y:Int × Int),i<j->l[i]?=some x->l[j]?=some y->x.1<y.1
def Found (l:List (Int × Int)) (t:Int) (i:Nat) (f:Bool):Prop:=i<=l.length/\Parts l t i i/\(f=true ↔ ∃ x,l[i]?=some x/\x.1=t)
theorem Parts.up {l:List (Int × Int)} {t:Int} {i j h:Nat} {x:Int × Int} (ha:Asc l) (hp:Parts l t i j) (hx:l[h]?=some x) (hlt:x.1<t):Parts l t (h+1) j :=
 ⟨fun q y hq hy=>by
  by_cases e:q=h
  ·subst e;rw [hx] at hy;cases hy;exact hlt
  ·have:=ha q h y x (by omega) hy hx;omega,hp.2⟩
theorem Parts.down {l:List (Int × Int)} {t:Int} {i j h:Nat} {x:Int × Int} (ha:Asc l) (hp:Parts l t i j) (hx:l[h]?=some x) (hge:t<=x.1):Parts l t i h :=
 ⟨hp.1,fun q y hq hy=>by
  by_cases e:q=h
  ·subst e;rw [hx] at hy;cases hy;exact hge
  ·have:=ha h q x y (by omega) hx hy;omega⟩
theorem zC (t:Int) : ∀ (l:List (Int × Int)) (z:Int),(∀ x∈l,t<x.1)->l.foldl (fun n s=>if s.1<=t then s.2 else n) z=z
 | [],z,h=>rfl
 | x::l,z,h=>by
  rw [ahJ,if_neg (by have:=h x (by simp);omega)]
  exact zC t l z fun y hy=>h y (by simp [hy])
def abd (l:List (Int × Int)) (t:Int) (i:Int):Prop := -1<=i/\i<l.length/\(∀ (q:Nat) x,(q:Int)=i->l[q]?=some x->x.1<=t)/\(∀ (q:Nat) x,i<q->l[q]?=some x->t<x.1)
theorem Found.no {l:List (Int × Int)} {t:Int} {i:Nat} (ha:Asc l) (h:Found l t i false):abd l t (i-1):=by
 obtain ⟨h1,h2,h3⟩:=h
 refine ⟨by omega,by omega,fun q y hq hy=>?_,fun q y hq hy=>?_⟩
 ·have:=h2.1 q y (by omega) hy;omega
 ·have h4:=h2.2 q y (by omega) hy
  by_cases e:q=i
  ·subst e
   have : ¬ y.1=t:=fun e=>by have:=h3.2 ⟨y,hy,e⟩;simp at this
   omega
  ·by_cases e2:y.1=t
   ·exfalso
    have hlt:i<l.length:=by have:=(agV.1 hy).1;omega
    have hxi:l[i]?=some l[i]:=ag4 hlt
    have h5:=h2.2 i _ (ag' _) hxi
    have h6:=ha i q _ y (by omega) hxi hy
    omega
   ·omega
def d_ (l:List Int):Prop := ∀ (i j:Nat) (x y:Int),i<j->l[i]?=some x->l[j]?=some y->x<y
def Merged (a b P:List (Int)) (i k:Nat):Prop:=d_ P/\(∀ x,x∈P↔x∈a.take i\/x∈b.take k)/\(∀ x∈P, ∀ (q:Nat) y,i<=q->a[q]?=some y->x<=y)/\(∀ x∈P, ∀ (q:Nat) y,k<=q->b[q]?=some y->x<=y)
def aam (l:List Int) (x:Int):List Int:=if l.getLast?=some x then l else l++[x]
theorem d_.snoc {l:List Int} {x:Int} (h:d_ l) (hx : ∀ y∈l,y<x):d_ (l++[x]):=by
 intro i j u v hij hu hv
 have hj:=(agV.1 hv).1
 simp at hj
 rw [ag9 (by omega)] at hu
 by_cases e:j=l.length
 ·subst e
  rw [ag2 (by omega)] at hv
  simp at hv
  subst hv
  exact hx u (ag1 hu)
 ·rw [ag9 (by omega)] at hv
  exact h i j u v hij hu hv
theorem d_.le_last {l:List Int} {z:Int} (h:d_ l) (hz:l.getLast?=some z) : ∀ y∈l,y<=z:=by
 intro y hy
 obtain ⟨i,hi,e⟩:=List.mem_iff_getElem.1 hy
 rw [List.getLast?_eq_getElem?] at hz
 have hyi:l[i]?=some y:=by rw [ag4 hi,e]
 by_cases e2:i=l.length-1
 ·subst e2;rw [hyi] at hz;cases hz;omega
 ·have:=h i (l.length-1) y z (by omega) hyi hz;omega
theorem Zm {l:List Int} {x:Int} (h:d_ l) (hx : ∀ y∈l,y<=x):d_ (aam l x)/\(∀ y,y∈aam l x↔y∈l\/y=x):=by
 unfold aam
 by_cases e:l.getLast?=some x
 ·rw [if_pos e]
  refine ⟨h,fun y=>⟨.inl,fun hy=>?_⟩⟩
  rcases hy with hy|rfl
  ·exact hy
  ·exact List.mem_of_getLast? e
 ·rw [if_neg e]
  refine ⟨h.snoc fun y hy=>?_,fun y=>by simp⟩
  have h1:=hx y hy
  by_cases e2:y=x
  ·exfalso
   subst e2
   cases hl:l.getLast? with
   | none=>rw [List.getLast?_eq_none_iff] at hl;subst hl;simp at hy
   | some z =>
    have h2:=h.le_last hl y hy
    have h3:=hx z (List.mem_of_getLast? hl)
    have:z=y:=by omega
    subst this
    exact e hl
  ·omega
theorem LH {l:List Int} {i:Nat} {x y:Int} (hx:l[i]?=some x):y∈l.take (i+1)↔y∈l.take i\/y=x:=by
 rw [List.take_add_one,hx];simp
theorem Merged.left {a b P:List Int} {i k:Nat} {x:Int} (h:Merged a b P i k) (ha:d_ a) (hx:a[i]?=some x) (hb : ∀ (q:Nat) y,k<=q->b[q]?=some y->x<=y):Merged a b (aam P x) (i+1) k:=by
 obtain ⟨h1,h2,h3,h4⟩:=h
 obtain ⟨g1,g2⟩:=Zm h1 fun y hy=>h3 y hy i x (ag' _) hx
 refine ⟨g1,fun y=>?_,fun y hy q z hq hz=>?_,fun y hy q z hq hz=>?_⟩
 ·rw [g2,h2,LH hx]
  grind
 ·rcases (g2 y).1 hy with u|u
  ·exact h3 y u q z (by omega) hz
  ·subst u;have:=ha i q y z (by omega) hx hz;omega
 ·rcases (g2 y).1 hy with u|u
  ·exact h4 y u q z hq hz
  ·subst u;exact hb q z hq hz
theorem Merged.right {a b P:List Int} {i k:Nat} {x:Int} (h:Merged a b P i k) (hb:d_ b) (hx:b[k]?=some x) (ha : ∀ (q:Nat) y,i<=q->a[q]?=some y->x<=y):Merged a b (aam P x) i (k+1):=by
 obtain ⟨h1,h2,h3,h4⟩:=h
 obtain ⟨g1,g2,g3,g4⟩:=Merged.left (a:=b) (b:=a) ⟨h1,fun y=>(h2 y).trans Or.comm,h4,h3⟩ hb hx ha
 exact ⟨g1,fun y=>(g2 y).trans Or.comm,g4,g3⟩
theorem d_.from {l:List Int} (h:d_ l) {i:Nat} {x z:Int} (hx:l[i]?=some x) (hz:z<=x) : ∀ (q:Nat) y,i<=q->l[q]?=some y->z<=y:=by
 intro q y hq hy
 by_cases e:q=i
 ·subst e;rw [hx] at hy;cases hy;exact hz
 ·have:=h i q x y (by omega) hx hy;omega
theorem Asc.map {l:List (Int × Int)} (h:Asc l):d_ (l.map (·.1)):=by
 intro i j x y hij hx hy
 simp at hx hy
 obtain ⟨u,hu⟩:=hx
 obtain ⟨v,hv⟩:=hy
 exact h i j _ _ hij hu hv
theorem Eu (n:Int) : ∀ (l:List Int) (y:Int),y∈ins n l↔y=n\/y∈l
 | [],y=>by simp [ins]
 | x::r,y=>by
  have:=Eu n r y
  unfold ins
  split
  ·simp only [aha,this];grind
  ·split
   ·simp
   ·obtain rfl:x=n:=by omega
    simp
theorem d_.tail {x:Int} {l:List Int} (h:d_ (x::l)):d_ l:=fun i j u v hij hu hv=>h (i+1) (j+1) u v (by omega) (by simpa using hu) (by simpa using hv)
theorem d_.head {x:Int} {l:List Int} (h:d_ (x::l)) : ∀ y∈l,x<y:=by
 intro y hy
 obtain ⟨i,hi,e⟩:=List.mem_iff_getElem.1 hy
 exact h 0 (i+1) x y (by omega) rfl (by simp [ag4 hi,e])
theorem d_.cons {x:Int} {l:List Int} (h:d_ l) (hx : ∀ y∈l,x<y):d_ (x::l):=by
 intro i j u v hij hu hv
 match i,j,hij with
 | 0,j+1,_ =>
  simp at hu hv
  subst hu
  exact hx v (ag1 hv)
 | i+1,j+1,hij=>exact h i j u v (by omega) (by simpa using hu) (by simpa using hv)
theorem d_.ins (n:Int) : ∀ {l:List Int}, d_ l->d_ (ins n l)
 | [],_=>by
  intro i j u v hij hu hv
  have h1:=(agV.1 hu).1
  have h2:=(agV.1 hv).1
  simp [Go.Proofs.YtcehmafobkhdbaaGreatDoor.St.ins] at h1 h2
  omega
 | x::r,h=>by
  unfold Go.Proofs.YtcehmafobkhdbaaGreatDoor.St.ins
  split
  ·refine (d_.ins n h.tail).cons fun y hy=>?_
   rcases (Eu n r y).1 hy with e|e
   ·omega
   ·exact h.head y e
  ·split
   ·refine h.cons fun y hy=>?_
    rcases aha.1 hy with e|e
    ·omega
    ·have:=h.head y e;omega
   ·exact h
theorem d_.ext : ∀ {a b:List Int}, d_ a->d_ b->(∀ x,x∈a↔x∈b)->a=b
 | [],[],_,_,_=>rfl
 | [],y::b,_,_,h=>by have:=(h y).2 (by simp);simp at this
 | x::a,[],_,_,h=>by have:=(h x).1 (by simp);simp at this
 | x::a,y::b,ha,hb,h=>by
  have hxy:x=y:=by
   have h1:=(h x).1 (by simp)
   have h2:=(h y).2 (by simp)
   rcases aha.1 h1 with e|e
   ·exact e
   ·rcases aha.1 h2 with e2|e2
    ·exact e2.symm
    ·have:=hb.head x e;have:=ha.head y e2;omega
  subst hxy
  rw [d_.ext ha.tail hb.tail fun z=>⟨fun hz=>?_,fun hz=>?_⟩]
  ·rcases aha.1 ((h z).1 (by simp [hz])) with e|e
   ·have:=ha.head z hz;omega
   ·exact e
  ·rcases aha.1 ((h z).2 (by simp [hz])) with e|e
   ·have:=hb.head z hz;omega
   ·exact e
theorem d_.nil:d_ []:=fun i j x y _ h=>by simp at h
def dJ (f:Int->Int) (P:List Int):List (Int × Int):=P.foldl (fun acc p=>fU acc (p,f p)) []
theorem SI {f:Int->Int} {P:List Int} {k:Nat} {x:Int} (hx:P[k]?=some x):dJ f (P.take (k+1))=fU (dJ f (P.take k)) (x,f x):=iL hx
theorem tN (f:Int->Int) : ∀ (P:List Int) (acc:List (Int × Int)),acc.length<=(P.foldl (fun acc p=>fU acc (p,f p)) acc).length/\(P.foldl (fun acc p=>fU acc (p,f p)) acc).length<=acc.length+P.length
 | [],acc=>by simp
 | x::P,acc=>by
  have h1:=tN f P (fU acc (x,f x))
  have h2:=aaw acc (x,f x)
  simp only [ahJ,ahf]
  omega
theorem ql (f:Int->Int) (P:List Int):(dJ f P).length<=P.length:=by have:=(tN f P []).2;unfold dJ;simpa using this
theorem FX {α:Type} {enc:α->List Value} {k:Nat} (hk : ∀ x,(enc x).length=k) {x':α} {u:Value} {j:Nat} (hj:j<k) : ∀ {l:List α} {i:Nat} {x:α}, l[i]?=some x->enc x'=(enc x).set j u->(l.flatMap enc).set (i*k+j) u=(l.set i x').flatMap enc
 | [],i,x,h,_=>by simp at h
 | y::l,0,x,h,he=>by
  simp at h;subst h
  rw [List.set_cons_zero,ahw,ahw,he,Nat.zero_mul,ahB,List.set_append_left _ _ (by rw [hk];exact hj)]
 | y::l,i+1,x,h,he=>by
  have:=FX hk hj (l:=l) (i:=i) (x:=x) (by simpa using h) he
  rw [List.set_cons_succ,ahw,ahw, <- this]
  have e:(i+1)*k+j=(enc y).length+(i*k+j):=by rw [hk,Nat.succ_mul];omega
  rw [e,List.set_append_right _ _ (by omega)]
  congr 2;omega
theorem Own.at {α:Type} {enc:α->List Value} {k:Nat} {w:World} {E:TypeId} {base n c:Nat} {A:Option Addr} {l:List α} (h:Own enc k E w base (.slice A n c) l) (h0:0<n) : ∃ g,A=some ⟨g,0,none⟩/\base<=g/\g<w.heap.size/\(∀ o,w.frozen? ⟨g,o,none⟩=false):=by
 rcases h.2 with ⟨hv,hx⟩|⟨g,cap,cur,hv,hb,hh,_⟩
 ·injection hv with h1 h2 h3;omega
 ·injection hv with h1 h2 h3
  exact ⟨g,h1,hb,(ahD.1 hh).1,fun o=>by simp [World.frozen?,hh]⟩
theorem Own.stored {α:Type} {enc:α->List Value} {k:Nat} {w:World} {E:TypeId} {base n c g i j:Nat} {l:List α} {x x':α} {u:Value} (hk : ∀ x,(enc x).length=k) (h:Own enc k E w base (.slice (some ⟨g,0,none⟩) n c) l) (hj:j<k) (hx:l[i]?=some x) (he:enc x'=(enc x).set j u) :
  Own enc k E (w.setCell ⟨g,i*k+j,none⟩ u) base (.slice (some ⟨g,0,none⟩) n c) (l.set i x'):=by
 have hl:=h.len
 subst hl
 have:=(World.ownsRow.stored h (i*k+j) u).1
 unfold Own
 rw [List.length_set, <- FX hk hj hx he]
 exact this
theorem Bf {α:Type} (q:α->Bool) : ∀ l:List α,(l.takeWhile q).length<=l.length
 | []=>by simp
 | a::l=>by
  have:=Bf q l
  rw [List.takeWhile_cons]
  split<;>simp<;>omega
theorem G6 (a b:Int):wrap64 (wrap64 a+b)=wrap64 (a+b):=by unfold wrap64;omega
theorem Va (a b:Int):wrap64 (a+wrap64 b)=wrap64 (a+b):=by unfold wrap64;omega
theorem ZT:wrap64 0=0:=by unfold wrap64;omega
def pF (l:List ((Int × Int) × Int)) (p:Int):Int:=l.foldl (fun n c=>if a_ c.1 p then wrap64 (n+c.2) else n) 0
def tH (l:List ((Int × Int) × Int)) (p:Int):Int:=(l.map fun c=>if a_ c.1 p then c.2 else 0).sum
theorem E5 (p:Int) : ∀ (l:List ((Int × Int) × Int)) (z:Int),l.foldl (fun n c=>if a_ c.1 p then wrap64 (n+c.2) else n) (wrap64 z)=wrap64 (z+tH l p)
 | [],z=>by simp [tH]
 | c::l,z=>by
  have hi:tH (c::l) p=(if a_ c.1 p then c.2 else 0)+tH l p:=by simp [tH]
  rw [ahJ,hi]
  by_cases h:a_ c.1 p=true
  ·rw [if_pos h,if_pos h,G6,E5 p l]
   congr 1;omega
  ·rw [if_neg h,if_neg h,E5 p l]
   congr 1;omega
theorem wT (l:List ((Int × Int) × Int)) (p:Int):pF l p=wrap64 (tH l p):=by
 have:=E5 p l 0
 rw [ZT,Int.zero_add] at this
 exact this
def pz (c:(Int × Int) × Int):List (Int × Int):=if aO c.1 then [(c.1.1,c.2),(c.1.2,wrap64 (-c.2))] else []
def CS (l:List ((Int × Int) × Int)):List (Int × Int):=l.flatMap pz
def xU (X:List (Int × Int)) (p:Int):Int:=(X.map fun s=>if s.1<=p then s.2 else 0).sum
theorem Gs (X Y:List (Int × Int)) (p:Int):xU (X++Y) p=xU X p+xU Y p:=by simp [xU]
theorem WN (c:(Int × Int) × Int) (p:Int):wrap64 (xU (pz c) p)=wrap64 (if a_ c.1 p then c.2 else 0):=by
 unfold pz
 by_cases h:aO c.1=true
 ·rw [if_pos h]
  have hv:c.1.1<c.1.2:=by simp [aO] at h;omega
  by_cases h1:c.1.1<=p
  ·by_cases h2:c.1.2<=p
   ·have hc : ¬ a_ c.1 p=true:=by simp [a_];omega
    rw [if_neg hc]
    simp only [xU,ag6,ag_,List.sum_cons,List.sum_nil,if_pos h1,if_pos h2]
    unfold wrap64;omega
   ·have hc:a_ c.1 p=true:=by simp [a_,h];omega
    rw [if_pos hc]
    simp only [xU,ag6,ag_,List.sum_cons,List.sum_nil,if_pos h1,if_neg h2]
    congr 1;omega
  ·have hc : ¬ a_ c.1 p=true:=by simp [a_];omega
   rw [if_neg hc]
   simp only [xU,ag6,ag_,List.sum_cons,List.sum_nil,if_neg h1,if_neg (show ¬ c.1.2<=p by omega)]
   rfl
 ·rw [if_neg h]
  have hc : ¬ a_ c.1 p=true:=by simp [a_];intro e;exact absurd e h
  rw [if_neg hc];rfl
theorem D6 : ∀ (l:List ((Int × Int) × Int)) (p:Int),wrap64 (xU (CS l) p)=wrap64 (tH l p)
 | [],p=>rfl
 | c::l,p=>by
  have hi:tH (c::l) p=(if a_ c.1 p then c.2 else 0)+tH l p:=by simp [tH]
  have hc:CS (c::l)=pz c++CS l:=by simp [CS]
  rw [hi,hc,Gs, <- G6,WN,G6, <- Va,D6 l p,Va]
theorem Nh {X Y:List (Int × Int)} (h:X.Perm Y) (p:Int):xU X p=xU Y p:=by
 unfold xU
 induction h with
 | nil=>rfl
 | cons x _ ih=>simp only [ag6,List.sum_cons,ih]
 | swap x y l=>simp only [ag6,List.sum_cons];omega
 | trans _ _ ih1 ih2=>exact ih1.trans ih2
def Pd (X:List (Int × Int)):Int:=X.foldl (fun s c=>wrap64 (s+c.2)) 0
theorem Mk : ∀ (X:List (Int × Int)) (z:Int),X.foldl (fun s c=>wrap64 (s+c.2)) (wrap64 z)=wrap64 (z+(X.map (·.2)).sum)
 | [],z=>by simp
 | c::X,z=>by
  rw [ahJ,G6,Mk X]
  simp only [ag6,List.sum_cons]
  congr 1;omega
theorem acd (X:List (Int × Int)):Pd X=wrap64 (X.map (·.2)).sum:=by
 have:=Mk X 0
 rw [ZT,Int.zero_add] at this
 exact this
theorem EI {X:List (Int × Int)} {k:Nat} {x y:Int} (hx:X[k]?=some (x,y)):Pd (X.take (k+1))=wrap64 (Pd (X.take k)+y):=iL hx
theorem ZI {X:List (Int × Int)} {p:Int} (h : ∀ s∈X,s.1<=p):xU X p=(X.map (·.2)).sum:=by
 unfold xU
 congr 1
 exact List.map_congr_left fun s hs=>if_pos (h s hs)
theorem M0 : ∀ {X:List (Int × Int)} {p:Int}, (∀ s∈X,p<s.1)->xU X p=0
 | [],p,_=>rfl
 | s::X,p,h=>by
  have h1:xU (s::X) p=(if s.1<=p then s.2 else 0)+xU X p:=by simp [xU]
  rw [h1,if_neg (by have:=h s (by simp);omega),M0 fun t ht=>h t (by simp [ht])];rfl
theorem vN {l:List ((Int × Int) × Int)} {C:List (Int × Int)} {k:Nat} {p:Int} (hp:C.Perm (CS l)) (h1 : ∀ s∈C.take k,s.1<=p) (h2 : ∀ s∈C.drop k,p<s.1):Pd (C.take k)=pF l p:=by
 rw [wT, <- D6, <- Nh hp,acd, <- ahE k C,Gs,ZI h1,M0 h2]
 simp
def Yf (C:List (Int × Int)):Prop := ∀ (i j:Nat) (x y:Int × Int),i<j->C[i]?=some x->C[j]?=some y->x.1<=y.1
theorem Yf.of_pairwise {C:List (Int × Int)} (h:C.Pairwise fun x y=>x.1<=y.1):Yf C:=by
 intro i j x y hij hx hy
 obtain ⟨hi,rfl⟩:=agV.1 hx
 obtain ⟨hj,rfl⟩:=agV.1 hy
 exact List.pairwise_iff_getElem.1 h i j hi hj hij
theorem pU {α:Type} {C:List α} {k:Nat} {s:α} : s∈C.drop k ↔ ∃ q,k<=q/\C[q]?=some s:=by
 constructor
 ·intro h
  obtain ⟨i,hi,e⟩:=List.mem_iff_getElem.1 h
  exact ⟨k+i,by omega,by rw [<- ahF,ag4 hi,e]⟩
 ·rintro ⟨q,hq,e⟩
  have:(C.drop k)[q-k]?=some s:=by rw [ahF, <- e];congr 1;omega
  exact ag1 this
theorem kH {α:Type} {C:List α} {k:Nat} {s:α} : s∈C.take k ↔ ∃ q,q<k/\C[q]?=some s:=by
 constructor
 ·intro h
  obtain ⟨i,hi,e⟩:=List.mem_iff_getElem.1 h
  simp at hi
  exact ⟨i,by omega,by rw [<- e,List.getElem_take,ag4 (by omega)]⟩
 ·rintro ⟨q,hq,e⟩
  have:(C.take k)[q]?=some s:=by rw [List.getElem?_take_of_lt hq,e]
  exact ag1 this
def Met (C:List (Int × Int)) (k:Nat) (Pr:List Int):Prop:=d_ Pr/\(∀ x,x∈Pr↔x=0 \/ ∃ y,(x,y)∈C.take k)/\(∀ x∈Pr, ∀ s∈C.drop k,x<s.1)
theorem Met.start {C:List (Int × Int)} {k:Nat} (h1 : ∀ s∈C.take k,s.1=0) (h2 : ∀ s∈C.drop k,0<s.1):Met C k [0]:=by
 refine ⟨d_.nil.snoc (by simp),fun x=>?_,fun x hx s hs=>?_⟩
 ·simp
  intro y hy
  exact h1 _ hy
 ·simp at hx
  subst hx
  exact h2 s hs
theorem Met.next {C:List (Int × Int)} {k j:Nat} {Pr:List Int} {x:Int} (h:Met C k Pr) (hkj:k<j) (hx : ∀ q s,k<=q->q<j->C[q]?=some s->s.1=x) (hj:j<=C.length) (h2 : ∀ s∈C.drop j,x<s.1):Met C j (Pr++[x]):=by
 obtain ⟨g1,g2,g3⟩:=h
 have hk:C[k]?=some C[k]:=ag4 (by omega)
 have hxk:=hx k _ (ag' _) hkj hk
 have hlt : ∀ y∈Pr,y<x:=fun y hy=>by
  have:=g3 y hy C[k] (pU.2 ⟨k,ag' _,hk⟩)
  omega
 refine ⟨g1.snoc hlt,fun y=>?_,fun y hy s hs=>?_⟩
 ·rw [ahl,g2,ahz]
  constructor
  ·rintro ((e|⟨z,hz⟩)|e)
   ·exact .inl e
   ·obtain ⟨q,hq,e⟩:=kH.1 hz
    exact .inr ⟨z,kH.2 ⟨q,by omega,e⟩⟩
   ·subst e
    exact .inr ⟨C[k].2,kH.2 ⟨k,hkj,by rw [hk, <- hxk]⟩⟩
  ·rintro (e|⟨z,hz⟩)
   ·exact .inl (.inl e)
   ·obtain ⟨q,hq,e⟩:=kH.1 hz
    by_cases hqk:q<k
    ·exact .inl (.inr ⟨z,kH.2 ⟨q,hqk,e⟩⟩)
    ·exact .inr (hx q _ (by omega) hq e)
 ·rcases ahl.1 hy with e|e
  ·have h3:=h2 s hs
   have:=hlt y e
   omega
  ·simp at e
   subst e
   exact h2 s hs
theorem wz (f:Int->Int) (P:List Int) (x:Int):dJ f (P++[x])=fU (dJ f P) (x,f x):=by unfold dJ;rw [List.foldl_append];rfl
def FV (l:List ((Int × Int) × Int)):List Int:=l.foldl (fun p c=>if aO c.1 then ins c.1.2 (ins c.1.1 p) else p) [0]
def iq (l:List ((Int × Int) × Int)):List Int:=(FV l).takeWhile fun p=>decide (p<1099511627776)
theorem Cz : ∀ (l:List ((Int × Int) × Int)) (p:List Int),d_ p->d_ (l.foldl (fun p c=>if aO c.1 then ins c.1.2 (ins c.1.1 p) else p) p) /\
  ∀ x,x∈l.foldl (fun p c=>if aO c.1 then ins c.1.2 (ins c.1.1 p) else p) p↔x∈p \/ ∃ y,(x,y)∈CS l
 | [],p,h=>⟨h,fun x=>by simp [CS]⟩
 | c::l,p,h=>by
  rw [ahJ]
  have hc:CS (c::l)=pz c++CS l:=by simp [CS]
  by_cases hv:aO c.1=true
  ·rw [if_pos hv]
   obtain ⟨g1,g2⟩:=Cz l _ ((h.ins c.1.1).ins c.1.2)
   refine ⟨g1,fun x=>?_⟩
   rw [g2,Eu,Eu,hc]
   have h1:pz c=[(c.1.1,c.2),(c.1.2,wrap64 (-c.2))]:=by unfold pz;rw [if_pos hv]
   rw [h1]
   constructor
   ·rintro ((e|e|e)|⟨y,hy⟩)
    ·exact .inr ⟨wrap64 (-c.2),by simp [e]⟩
    ·exact .inr ⟨c.2,by simp [e]⟩
    ·exact .inl e
    ·exact .inr ⟨y,by simp [hy]⟩
   ·rintro (e|⟨y,hy⟩)
    ·exact .inl (.inr (.inr e))
    ·simp only [ahl,aha,List.not_mem_nil,or_false,Prod.mk.injEq] at hy
     rcases hy with (⟨e,_⟩|⟨e,_⟩)|e
     ·exact .inl (.inr (.inl e))
     ·exact .inl (.inl e)
     ·exact .inr ⟨y,e⟩
  ·rw [if_neg hv]
   obtain ⟨g1,g2⟩:=Cz l _ h
   refine ⟨g1,fun x=>?_⟩
   rw [g2,hc]
   have h1:pz c=[]:=by unfold pz;rw [if_neg hv]
   rw [h1,ag0]
theorem d_.takeWhile {b:Int} : ∀ {l:List Int}, d_ l->d_ (l.takeWhile fun p=>decide (p<b)) /\ ∀ x,x∈l.takeWhile (fun p=>decide (p<b))↔x∈l/\x<b
 | [],h=>⟨h,fun x=>by simp⟩
 | a::l,h=>by
  obtain ⟨g1,g2⟩:=d_.takeWhile (b:=b) h.tail
  by_cases hab:a<b
  ·rw [List.takeWhile_cons_of_pos (by simpa using hab)]
   refine ⟨g1.cons fun y hy=>h.head y ((g2 y).1 hy).1,fun x=>?_⟩
   rw [aha,g2,aha]
   constructor
   ·rintro (rfl|⟨e1,e2⟩)
    ·exact ⟨.inl rfl,hab⟩
    ·exact ⟨.inr e1,e2⟩
   ·rintro ⟨rfl|e1,e2⟩
    ·exact .inl rfl
    ·exact .inr ⟨e1,e2⟩
  ·rw [List.takeWhile_cons_of_neg (by simpa using hab)]
   refine ⟨.nil,fun x=>⟨fun hx=>by simp at hx,fun ⟨hx,hlt⟩=>?_⟩⟩
   rcases aha.1 hx with e|e
   ·omega
   ·have:=h.head x e;omega
theorem jI (l:List ((Int × Int) × Int)):d_ (iq l) /\ ∀ x,x∈iq l↔(x=0 \/ ∃ y,(x,y)∈CS l)/\x<1099511627776:=by
 obtain ⟨g1,g2⟩:=Cz l [0] (d_.nil.snoc (by simp))
 obtain ⟨g3,g4⟩:=d_.takeWhile (b:=1099511627776) (l:=FV l) g1
 refine ⟨g3,fun x=>?_⟩
 have:=g2 x
 rw [ahz] at this
 exact (g4 x).trans (by rw [<- this];exact Iff.rfl)
theorem Met.done {l:List ((Int × Int) × Int)} {C:List (Int × Int)} {k:Nat} {Pr:List Int} (hp:C.Perm (CS l)) (h:Met C k Pr) (h1 : ∀ s∈C.take k,s.1<1099511627776) (h2 : ∀ s∈C.drop k,1099511627776<=s.1):Pr=iq l:=by
 obtain ⟨g1,g2,_⟩:=h
 obtain ⟨g3,g4⟩:=jI l
 refine g1.ext g3 fun x=>?_
 rw [g2,g4]
 constructor
 ·rintro (e|⟨y,hy⟩)
  ·exact ⟨.inl e,by omega⟩
  ·exact ⟨.inr ⟨y,hp.mem_iff.1 (ahQ hy)⟩,h1 _ hy⟩
 ·rintro ⟨e|⟨y,hy⟩,hlt⟩
  ·exact .inl e
  ·have hy':=hp.mem_iff.2 hy
   rw [<- ahE k C,ahl] at hy'
   rcases hy' with e|e
   ·exact .inr ⟨y,e⟩
   ·have:=h2 _ e;simp at this;omega
def rR:List (Int × Int)->List ((Int × Int) × Int)
 | []=>[]
 | [x]=>[((x.1,1099511627776),x.2)]
 | x::y::r=>((x.1,y.1),x.2)::rR (y::r)
theorem RP : ∀ l:List (Int × Int),(rR l).length=l.length
 | []=>rfl
 | [x]=>rfl
 | x::y::r=>by simp [rR,RP (y::r)]
theorem Rz : ∀ (l:List (Int × Int)) (i:Nat) (x:Int × Int),l[i]?=some x->(rR l)[i]?=some ((x.1,((l[i+1]?).map (·.1)).getD 1099511627776),x.2)
 | [],i,x,h=>by simp at h
 | [a],0,x,h=>by simp at h;subst h;simp [rR]
 | [a],i+1,x,h=>by simp at h
 | a::b::r,0,x,h=>by simp at h;subst h;simp [rR]
 | a::b::r,i+1,x,h=>by
  have:=Rz (b::r) i x (by simpa using h)
  simpa [rR] using this
def jR (l:List (Int × Int)) (p:Int × Int):List (Int × Int) :=
 match l.getLast? with
 | some q=>if p.1<=q.2 then l.dropLast++[(q.1,max q.2 p.2)] else l++[p]
 | none=>l++[p]
def dZ (n:Int) (out:List (Int × Int)) (g:(Int × Int) × Int):List (Int × Int):=if n<=g.2 then jR out g.1 else out
def Hf (l:List (Int × Int)) (n:Int):List (Int × Int):=(rR l).foldl (dZ n) []
theorem XK (l:List (Int × Int)) (p:Int × Int):(jR l p).length<=l.length+1:=by
 unfold jR
 split
 ·split
  ·simp
   try omega
  ·simp
 ·simp
theorem TK (n:Int) (l:List (Int × Int)) (g:(Int × Int) × Int):(dZ n l g).length<=l.length+1:=by
 unfold dZ
 split
 ·exact XK _ _
 ·omega
theorem Ic (n:Int) : ∀ (s:List ((Int × Int) × Int)) (out:List (Int × Int)),(s.foldl (dZ n) out).length<=out.length+s.length
 | [],out=>by simp
 | g::s,out=>by
  have h1:=Ic n s (dZ n out g)
  have h2:=TK n out g
  simp only [ahJ,ahf]
  omega
end Go.Proofs.YtcehmafobkhdbaaGreatDoor.St
