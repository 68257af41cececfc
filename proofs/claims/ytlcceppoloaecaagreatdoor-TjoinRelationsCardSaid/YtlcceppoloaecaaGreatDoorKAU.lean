/- Parts of the proof, joined. No condition. -/
import Derived.Test.YtlcceppoloaecaaGreatDoorKAA
import Derived.Test.YtlcceppoloaecaaGreatDoorKAT
set_option linter.unusedSimpArgs false
set_option linter.unusedVariables false
namespace Go.Proofs.YtlcceppoloaecaaGreatDoor.St
open Go.RowKit
theorem dB {α β:Type} {l:List α} {g:β->α->β} {b:β} {k:Nat} {x:α} (hx:l[k]?=some x):(l.take (k+1)).foldl g b=g ((l.take k).foldl g b) x:=by
 rw [List.take_add_one,hx]
 simp
def wD (a b:Int):Int:=if a<b then -1 else if b<a then 1 else 0
def Parts (l:List (Int × Int)) (t:Int) (i j:Nat):Prop:=(∀ q x,q<i->l[q]?=some x->x.1<t)/\(∀ q x,j<=q->l[q]?=some x->t<=x.1)
def Asc (l:List (Int × Int)):Prop := ∀ (i j:Nat) (x y:Int × Int),i<j->l[i]?=some x->l[j]?=some y->x.1<y.1
def Found (l:List (Int × Int)) (t:Int) (i:Nat) (f:Bool):Prop:=i<=l.length/\Parts l t i i/\(f=true ↔ ∃ x,l[i]?=some x/\x.1=t)
theorem Parts.up {l:List (Int × Int)} {t:Int} {i j h:Nat} {x:Int × Int} (ha:Asc l) (hp:Parts l t i j) (hx:l[h]?=some x) (hlt:x.1<t):Parts l t (h+1) j :=
 ⟨fun q y hq hy=>by
  by_cases e:q=h
  ·subst e;rw [hx] at hy;cases hy;exact hlt
  ·have:=ha q h y x (by omega) hy hx;omega,hp.2⟩
theorem Parts.down {l:List (Int × Int)} {t:Int} {i j h:Nat} {x:Int × Int} (ha:Asc l) (hp:Parts l t i j) (hx:l[h]?=some x) (hge:t<=x.1):Parts l t i h :=
 ⟨hp.1,fun q y hq hy=>by
  by_cases e:q=h
  ·subst e;rw [hx] at hy;cases hy;exact hge
  ·have:=ha h q x y (by omega) hx hy;omega⟩
def Kh (l:List (Int × Int)) (t:Int) (i:Int):Prop := -1<=i/\i<l.length/\(∀ (q:Nat) x,(q:Int)=i->l[q]?=some x->x.1<=t)/\(∀ (q:Nat) x,i<q->l[q]?=some x->t<x.1)
theorem Found.no {l:List (Int × Int)} {t:Int} {i:Nat} (ha:Asc l) (h:Found l t i false):Kh l t (i-1):=by
 obtain ⟨h1,h2,h3⟩:=h
 refine ⟨by omega,by omega,fun q y hq hy=>?_,fun q y hq hy=>?_⟩
 ·have:=h2.1 q y (by omega) hy;omega
 ·have h4:=h2.2 q y (by omega) hy
  by_cases e:q=i
  ·subst e
   have : ¬ y.1=t:=fun e=>by have:=h3.2 ⟨y,hy,e⟩;simp at this
   omega
  ·by_cases e2:y.1=t
   ·exfalso
    have hlt:i<l.length:=by have:=(Vb.1 hy).1;omega
    have hxi:l[i]?=some l[i]:=Vl hlt
    have h5:=h2.2 i _ (Vs _) hxi
    have h6:=ha i q _ y (by omega) hxi hy
    omega
   ·omega
def bR (l:List Int):Prop := ∀ (i j:Nat) (x y:Int),i<j->l[i]?=some x->l[j]?=some y->x<y
def Merged (a b P:List (Int)) (i k:Nat):Prop:=bR P/\(∀ x,x∈P↔x∈a.take i\/x∈b.take k)/\(∀ x∈P, ∀ (q:Nat) y,i<=q->a[q]?=some y->x<=y)/\(∀ x∈P, ∀ (q:Nat) y,k<=q->b[q]?=some y->x<=y)
def Ka (l:List Int) (x:Int):List Int:=if l.getLast?=some x then l else l++[x]
theorem bR.snoc {l:List Int} {x:Int} (h:bR l) (hx : ∀ y∈l,y<x):bR (l++[x]):=by
 intro i j u v hij hu hv
 have hj:=(Vb.1 hv).1
 simp at hj
 rw [Vq (by omega)] at hu
 by_cases e:j=l.length
 ·subst e
  rw [Vj (by omega)] at hv
  simp at hv
  subst hv
  exact hx u (Vi hu)
 ·rw [Vq (by omega)] at hv
  exact h i j u v hij hu hv
theorem bR.le_last {l:List Int} {z:Int} (h:bR l) (hz:l.getLast?=some z) : ∀ y∈l,y<=z:=by
 intro y hy
 obtain ⟨i,hi,e⟩:=List.mem_iff_getElem.1 hy
 rw [List.getLast?_eq_getElem?] at hz
 have hyi:l[i]?=some y:=by rw [Vl hi,e]
 by_cases e2:i=l.length-1
 ·subst e2;rw [hyi] at hz;cases hz;omega
 ·have:=h i (l.length-1) y z (by omega) hyi hz;omega
theorem JQ {l:List Int} {x:Int} (h:bR l) (hx : ∀ y∈l,y<=x):bR (Ka l x)/\(∀ y,y∈Ka l x↔y∈l\/y=x):=by
 unfold Ka
 by_cases e:l.getLast?=some x
 ·rw [if_pos e]
  refine ⟨h,fun y=>⟨.inl,fun hy=>?_⟩⟩
  rcases hy with hy|rfl
  ·exact hy
  ·exact List.mem_of_getLast? e
 ·rw [if_neg e]
  refine ⟨h.snoc fun y hy=>?_,fun y=>by simp⟩
  have h1:=hx y hy
  by_cases e2:y=x
  ·exfalso
   subst e2
   cases hl:l.getLast? with
   | none=>rw [List.getLast?_eq_none_iff] at hl;subst hl;simp at hy
   | some z =>
    have h2:=h.le_last hl y hy
    have h3:=hx z (List.mem_of_getLast? hl)
    have:z=y:=by omega
    subst this
    exact e hl
  ·omega
theorem y9 {l:List Int} {i:Nat} {x y:Int} (hx:l[i]?=some x):y∈l.take (i+1)↔y∈l.take i\/y=x:=by
 rw [List.take_add_one,hx];simp
theorem Merged.left {a b P:List Int} {i k:Nat} {x:Int} (h:Merged a b P i k) (ha:bR a) (hx:a[i]?=some x) (hb : ∀ (q:Nat) y,k<=q->b[q]?=some y->x<=y):Merged a b (Ka P x) (i+1) k:=by
 obtain ⟨h1,h2,h3,h4⟩:=h
 obtain ⟨g1,g2⟩:=JQ h1 fun y hy=>h3 y hy i x (Vs _) hx
 refine ⟨g1,fun y=>?_,fun y hy q z hq hz=>?_,fun y hy q z hq hz=>?_⟩
 ·rw [g2,h2,y9 hx]
  grind
 ·rcases (g2 y).1 hy with u|u
  ·exact h3 y u q z (by omega) hz
  ·subst u;have:=ha i q y z (by omega) hx hz;omega
 ·rcases (g2 y).1 hy with u|u
  ·exact h4 y u q z hq hz
  ·subst u;exact hb q z hq hz
theorem Merged.right {a b P:List Int} {i k:Nat} {x:Int} (h:Merged a b P i k) (hb:bR b) (hx:b[k]?=some x) (ha : ∀ (q:Nat) y,i<=q->a[q]?=some y->x<=y):Merged a b (Ka P x) i (k+1):=by
 obtain ⟨h1,h2,h3,h4⟩:=h
 obtain ⟨g1,g2,g3,g4⟩:=Merged.left (a:=b) (b:=a) ⟨h1,fun y=>(h2 y).trans Or.comm,h4,h3⟩ hb hx ha
 exact ⟨g1,fun y=>(g2 y).trans Or.comm,g4,g3⟩
theorem bR.from {l:List Int} (h:bR l) {i:Nat} {x z:Int} (hx:l[i]?=some x) (hz:z<=x) : ∀ (q:Nat) y,i<=q->l[q]?=some y->z<=y:=by
 intro q y hq hy
 by_cases e:q=i
 ·subst e;rw [hx] at hy;cases hy;exact hz
 ·have:=h i q x y (by omega) hx hy;omega
theorem Asc.map {l:List (Int × Int)} (h:Asc l):bR (l.map (·.1)):=by
 intro i j x y hij hx hy
 simp at hx hy
 obtain ⟨u,hu⟩:=hx
 obtain ⟨v,hv⟩:=hy
 exact h i j _ _ hij hu hv
theorem rY (n:Int) : ∀ (l:List Int) (y:Int),y∈ins n l↔y=n\/y∈l
 | [],y=>by simp [ins]
 | x::r,y=>by
  have:=rY n r y
  unfold ins
  split
  ·simp only [Vt,this];grind
  ·split
   ·simp
   ·obtain rfl:x=n:=by omega
    simp
theorem bR.tail {x:Int} {l:List Int} (h:bR (x::l)):bR l:=fun i j u v hij hu hv=>h (i+1) (j+1) u v (by omega) (by simpa using hu) (by simpa using hv)
theorem bR.head {x:Int} {l:List Int} (h:bR (x::l)) : ∀ y∈l,x<y:=by
 intro y hy
 obtain ⟨i,hi,e⟩:=List.mem_iff_getElem.1 hy
 exact h 0 (i+1) x y (by omega) rfl (by simp [Vl hi,e])
theorem bR.cons {x:Int} {l:List Int} (h:bR l) (hx : ∀ y∈l,x<y):bR (x::l):=by
 intro i j u v hij hu hv
 match i,j,hij with
 | 0,j+1,_ =>
  simp at hu hv
  subst hu
  exact hx v (Vi hv)
 | i+1,j+1,hij=>exact h i j u v (by omega) (by simpa using hu) (by simpa using hv)
theorem bR.ins (n:Int) : ∀ {l:List Int}, bR l->bR (ins n l)
 | [],_=>by
  intro i j u v hij hu hv
  have h1:=(Vb.1 hu).1
  have h2:=(Vb.1 hv).1
  simp [Go.Proofs.YtlcceppoloaecaaGreatDoor.St.ins] at h1 h2
  omega
 | x::r,h=>by
  unfold Go.Proofs.YtlcceppoloaecaaGreatDoor.St.ins
  split
  ·refine (bR.ins n h.tail).cons fun y hy=>?_
   rcases (rY n r y).1 hy with e|e
   ·omega
   ·exact h.head y e
  ·split
   ·refine h.cons fun y hy=>?_
    rcases Vt.1 hy with e|e
    ·omega
    ·have:=h.head y e;omega
   ·exact h
theorem bR.ext : ∀ {a b:List Int}, bR a->bR b->(∀ x,x∈a↔x∈b)->a=b
 | [],[],_,_,_=>rfl
 | [],y::b,_,_,h=>by have:=(h y).2 (by simp);simp at this
 | x::a,[],_,_,h=>by have:=(h x).1 (by simp);simp at this
 | x::a,y::b,ha,hb,h=>by
  have hxy:x=y:=by
   have h1:=(h x).1 (by simp)
   have h2:=(h y).2 (by simp)
   rcases Vt.1 h1 with e|e
   ·exact e
   ·rcases Vt.1 h2 with e2|e2
    ·exact e2.symm
    ·have:=hb.head x e;have:=ha.head y e2;omega
  subst hxy
  rw [bR.ext ha.tail hb.tail fun z=>⟨fun hz=>?_,fun hz=>?_⟩]
  ·rcases Vt.1 ((h z).1 (by simp [hz])) with e|e
   ·have:=ha.head z hz;omega
   ·exact e
  ·rcases Vt.1 ((h z).2 (by simp [hz])) with e|e
   ·have:=hb.head z hz;omega
   ·exact e
theorem bR.nil:bR []:=fun i j x y _ h=>by simp at h
theorem uS {α:Type} {enc:α->List Value} {k:Nat} (hk : ∀ x,(enc x).length=k) {x':α} {u:Value} {j:Nat} (hj:j<k) : ∀ {l:List α} {i:Nat} {x:α}, l[i]?=some x->enc x'=(enc x).set j u->(l.flatMap enc).set (i*k+j) u=(l.set i x').flatMap enc
 | [],i,x,h,_=>by simp at h
 | y::l,0,x,h,he=>by
  simp at h;subst h
  rw [List.set_cons_zero,VM,VM,he,Nat.zero_mul,VQ,List.set_append_left _ _ (by rw [hk];exact hj)]
 | y::l,i+1,x,h,he=>by
  have:=uS hk hj (l:=l) (i:=i) (x:=x) (by simpa using h) he
  rw [List.set_cons_succ,VM,VM, <- this]
  have e:(i+1)*k+j=(enc y).length+(i*k+j):=by rw [hk,Nat.succ_mul];omega
  rw [e,List.set_append_right _ _ (by omega)]
  congr 2;omega
theorem Own.at {α:Type} {enc:α->List Value} {k:Nat} {w:World} {E:TypeId} {base n c:Nat} {A:Option Addr} {l:List α} (h:Own enc k E w base (.slice A n c) l) (h0:0<n) : ∃ g,A=some ⟨g,0,none⟩/\base<=g/\g<w.heap.size/\(∀ o,w.frozen? ⟨g,o,none⟩=false):=by
 rcases h.2 with ⟨hv,hx⟩|⟨g,cap,cur,hv,hb,hh,_⟩
 ·injection hv with h1 h2 h3;omega
 ·injection hv with h1 h2 h3
  exact ⟨g,h1,hb,(VS.1 hh).1,fun o=>by simp [World.frozen?,hh]⟩
theorem Own.stored {α:Type} {enc:α->List Value} {k:Nat} {w:World} {E:TypeId} {base n c g i j:Nat} {l:List α} {x x':α} {u:Value} (hk : ∀ x,(enc x).length=k) (h:Own enc k E w base (.slice (some ⟨g,0,none⟩) n c) l) (hj:j<k) (hx:l[i]?=some x) (he:enc x'=(enc x).set j u) :
  Own enc k E (w.setCell ⟨g,i*k+j,none⟩ u) base (.slice (some ⟨g,0,none⟩) n c) (l.set i x'):=by
 have hl:=h.len
 subst hl
 have:=(World.ownsRow.stored h (i*k+j) u).1
 unfold Own
 rw [List.length_set, <- uS hk hj hx he]
 exact this
def mP (c:(Int × Int) × Int):List (Int × Int):=if bQ c.1 then [(c.1.1,c.2),(c.1.2,wrap64 (-c.2))] else []
def uC (l:List ((Int × Int) × Int)):List (Int × Int):=l.flatMap mP
theorem iF {α:Type} {C:List α} {k:Nat} {s:α} : s∈C.drop k ↔ ∃ q,k<=q/\C[q]?=some s:=by
 constructor
 ·intro h
  obtain ⟨i,hi,e⟩:=List.mem_iff_getElem.1 h
  exact ⟨k+i,by omega,by rw [<- VT,Vl hi,e]⟩
 ·rintro ⟨q,hq,e⟩
  have:(C.drop k)[q-k]?=some s:=by rw [VT, <- e];congr 1;omega
  exact Vi this
theorem dZ {α:Type} {C:List α} {k:Nat} {s:α} : s∈C.take k ↔ ∃ q,q<k/\C[q]?=some s:=by
 constructor
 ·intro h
  obtain ⟨i,hi,e⟩:=List.mem_iff_getElem.1 h
  simp at hi
  exact ⟨i,by omega,by rw [<- e,List.getElem_take,Vl (by omega)]⟩
 ·rintro ⟨q,hq,e⟩
  have:(C.take k)[q]?=some s:=by rw [List.getElem?_take_of_lt hq,e]
  exact Vi this
def Met (C:List (Int × Int)) (k:Nat) (Pr:List Int):Prop:=bR Pr/\(∀ x,x∈Pr↔x=0 \/ ∃ y,(x,y)∈C.take k)/\(∀ x∈Pr, ∀ s∈C.drop k,x<s.1)
theorem Met.start {C:List (Int × Int)} {k:Nat} (h1 : ∀ s∈C.take k,s.1=0) (h2 : ∀ s∈C.drop k,0<s.1):Met C k [0]:=by
 refine ⟨bR.nil.snoc (by simp),fun x=>?_,fun x hx s hs=>?_⟩
 ·simp
  intro y hy
  exact h1 _ hy
 ·simp at hx
  subst hx
  exact h2 s hs
theorem Met.next {C:List (Int × Int)} {k j:Nat} {Pr:List Int} {x:Int} (h:Met C k Pr) (hkj:k<j) (hx : ∀ q s,k<=q->q<j->C[q]?=some s->s.1=x) (hj:j<=C.length) (h2 : ∀ s∈C.drop j,x<s.1):Met C j (Pr++[x]):=by
 obtain ⟨g1,g2,g3⟩:=h
 have hk:C[k]?=some C[k]:=Vl (by omega)
 have hxk:=hx k _ (Vs _) hkj hk
 have hlt : ∀ y∈Pr,y<x:=fun y hy=>by
  have:=g3 y hy C[k] (iF.2 ⟨k,Vs _,hk⟩)
  omega
 refine ⟨g1.snoc hlt,fun y=>?_,fun y hy s hs=>?_⟩
 ·rw [VE,g2,List.mem_singleton]
  constructor
  ·rintro ((e|⟨z,hz⟩)|e)
   ·exact .inl e
   ·obtain ⟨q,hq,e⟩:=dZ.1 hz
    exact .inr ⟨z,dZ.2 ⟨q,by omega,e⟩⟩
   ·subst e
    exact .inr ⟨C[k].2,dZ.2 ⟨k,hkj,by rw [hk, <- hxk]⟩⟩
  ·rintro (e|⟨z,hz⟩)
   ·exact .inl (.inl e)
   ·obtain ⟨q,hq,e⟩:=dZ.1 hz
    by_cases hqk:q<k
    ·exact .inl (.inr ⟨z,dZ.2 ⟨q,hqk,e⟩⟩)
    ·exact .inr (hx q _ (by omega) hq e)
 ·rcases VE.1 hy with e|e
  ·have h3:=h2 s hs
   have:=hlt y e
   omega
  ·simp at e
   subst e
   exact h2 s hs
def H6 (l:List ((Int × Int) × Int)):List Int:=l.foldl (fun p c=>if bQ c.1 then ins c.1.2 (ins c.1.1 p) else p) [0]
def qX (l:List ((Int × Int) × Int)):List Int:=(H6 l).takeWhile fun p=>decide (p<1099511627776)
theorem qC : ∀ (l:List ((Int × Int) × Int)) (p:List Int),bR p->bR (l.foldl (fun p c=>if bQ c.1 then ins c.1.2 (ins c.1.1 p) else p) p) /\
  ∀ x,x∈l.foldl (fun p c=>if bQ c.1 then ins c.1.2 (ins c.1.1 p) else p) p↔x∈p \/ ∃ y,(x,y)∈uC l
 | [],p,h=>⟨h,fun x=>by simp [uC]⟩
 | c::l,p,h=>by
  rw [List.foldl_cons]
  have hc:uC (c::l)=mP c++uC l:=by simp [uC]
  by_cases hv:bQ c.1=true
  ·rw [if_pos hv]
   obtain ⟨g1,g2⟩:=qC l _ ((h.ins c.1.1).ins c.1.2)
   refine ⟨g1,fun x=>?_⟩
   rw [g2,rY,rY,hc]
   have h1:mP c=[(c.1.1,c.2),(c.1.2,wrap64 (-c.2))]:=by unfold mP;rw [if_pos hv]
   rw [h1]
   constructor
   ·rintro ((e|e|e)|⟨y,hy⟩)
    ·exact .inr ⟨wrap64 (-c.2),by simp [e]⟩
    ·exact .inr ⟨c.2,by simp [e]⟩
    ·exact .inl e
    ·exact .inr ⟨y,by simp [hy]⟩
   ·rintro (e|⟨y,hy⟩)
    ·exact .inl (.inr (.inr e))
    ·simp only [VE,Vt,List.not_mem_nil,or_false,Prod.mk.injEq] at hy
     rcases hy with (⟨e,_⟩|⟨e,_⟩)|e
     ·exact .inl (.inr (.inl e))
     ·exact .inl (.inl e)
     ·exact .inr ⟨y,e⟩
  ·rw [if_neg hv]
   obtain ⟨g1,g2⟩:=qC l _ h
   refine ⟨g1,fun x=>?_⟩
   rw [g2,hc]
   have h1:mP c=[]:=by unfold mP;rw [if_neg hv]
   rw [h1,Vh]
theorem bR.takeWhile {b:Int} : ∀ {l:List Int}, bR l->bR (l.takeWhile fun p=>decide (p<b)) /\ ∀ x,x∈l.takeWhile (fun p=>decide (p<b))↔x∈l/\x<b
 | [],h=>⟨h,fun x=>by simp⟩
 | a::l,h=>by
  obtain ⟨g1,g2⟩:=bR.takeWhile (b:=b) h.tail
  by_cases hab:a<b
  ·rw [List.takeWhile_cons_of_pos (by simpa using hab)]
   refine ⟨g1.cons fun y hy=>h.head y ((g2 y).1 hy).1,fun x=>?_⟩
   rw [Vt,g2,Vt]
   constructor
   ·rintro (rfl|⟨e1,e2⟩)
    ·exact ⟨.inl rfl,hab⟩
    ·exact ⟨.inr e1,e2⟩
   ·rintro ⟨rfl|e1,e2⟩
    ·exact .inl rfl
    ·exact .inr ⟨e1,e2⟩
  ·rw [List.takeWhile_cons_of_neg (by simpa using hab)]
   refine ⟨.nil,fun x=>⟨fun hx=>by simp at hx,fun ⟨hx,hlt⟩=>?_⟩⟩
   rcases Vt.1 hx with e|e
   ·omega
   ·have:=h.head x e;omega
theorem E8 (l:List ((Int × Int) × Int)):bR (qX l) /\ ∀ x,x∈qX l↔(x=0 \/ ∃ y,(x,y)∈uC l)/\x<1099511627776:=by
 obtain ⟨g1,g2⟩:=qC l [0] (bR.nil.snoc (by simp))
 obtain ⟨g3,g4⟩:=bR.takeWhile (b:=1099511627776) (l:=H6 l) g1
 refine ⟨g3,fun x=>?_⟩
 have:=g2 x
 rw [List.mem_singleton] at this
 exact (g4 x).trans (by rw [<- this];exact Iff.rfl)
theorem Met.done {l:List ((Int × Int) × Int)} {C:List (Int × Int)} {k:Nat} {Pr:List Int} (hp:C.Perm (uC l)) (h:Met C k Pr) (h1 : ∀ s∈C.take k,s.1<1099511627776) (h2 : ∀ s∈C.drop k,1099511627776<=s.1):Pr=qX l:=by
 obtain ⟨g1,g2,_⟩:=h
 obtain ⟨g3,g4⟩:=E8 l
 refine g1.ext g3 fun x=>?_
 rw [g2,g4]
 constructor
 ·rintro (e|⟨y,hy⟩)
  ·exact ⟨.inl e,by omega⟩
  ·exact ⟨.inr ⟨y,hp.mem_iff.1 (List.mem_of_mem_take hy)⟩,h1 _ hy⟩
 ·rintro ⟨e|⟨y,hy⟩,hlt⟩
  ·exact .inl e
  ·have hy':=hp.mem_iff.2 hy
   rw [<- List.take_append_drop k C,VE] at hy'
   rcases hy' with e|e
   ·exact .inr ⟨y,e⟩
   ·have:=h2 _ e;simp at this;omega
def qW:List (Int × Int)->List ((Int × Int) × Int)
 | []=>[]
 | [x]=>[((x.1,1099511627776),x.2)]
 | x::y::r=>((x.1,y.1),x.2)::qW (y::r)
theorem Ej : ∀ l:List (Int × Int),(qW l).length=l.length
 | []=>rfl
 | [x]=>rfl
 | x::y::r=>by simp [qW,Ej (y::r)]
theorem Ev : ∀ (l:List (Int × Int)) (i:Nat) (x:Int × Int),l[i]?=some x->(qW l)[i]?=some ((x.1,((l[i+1]?).map (·.1)).getD 1099511627776),x.2)
 | [],i,x,h=>by simp at h
 | [a],0,x,h=>by simp at h;subst h;simp [qW]
 | [a],i+1,x,h=>by simp at h
 | a::b::r,0,x,h=>by simp at h;subst h;simp [qW]
 | a::b::r,i+1,x,h=>by
  have:=Ev (b::r) i x (by simpa using h)
  simpa [qW] using this
def gu (l:List (Int × Int)) (p:Int × Int):List (Int × Int) :=
 match l.getLast? with
 | some q=>if p.1<=q.2 then l.dropLast++[(q.1,max q.2 p.2)] else l++[p]
 | none=>l++[p]
def dI (n:Int) (out:List (Int × Int)) (g:(Int × Int) × Int):List (Int × Int):=if n<=g.2 then gu out g.1 else out
def Gv (l:List (Int × Int)) (n:Int):List (Int × Int):=(qW l).foldl (dI n) []
end Go.Proofs.YtlcceppoloaecaaGreatDoor.St
