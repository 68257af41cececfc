/- Parts of the proof, joined. No condition. -/
import Derived.Test.YtfccopdbgfdcdaaGreatDoorKAW
set_option linter.unusedSimpArgs false
set_option linter.unusedVariables false
namespace Go.Proofs.YtfccopdbgfdcdaaGreatDoor.St
open Go.RowKit
theorem foldl_take {α β:Type} {l:List α} {g:β→α→β} {b:β} {k:Nat} {x:α} (hx:l[k]?=some x):(l.take (k+1)).foldl g b=g ((l.take k).foldl g b) x:=by
 rw [List.take_add_one,hx]
 simp
def cmpI (a b:Int):Int:=if a<b then -1 else if b<a then 1 else 0
def Parts (l:List (Int × Int)) (t:Int) (i j:Nat):Prop:=(∀ q x,q<i→l[q]?=some x→x.1<t)∧(∀ q x,j≤q→l[q]?=some x→t≤x.1)
def Asc (l:List (Int × Int)):Prop := ∀ (i j:Nat) (x y:Int × Int),i<j→l[i]?=some x→l[j]?=some y→x.1<y.1
def Found (l:List (Int × Int)) (t:Int) (i:Nat) (f:Bool):Prop:=i≤l.length∧Parts l t i i∧(f=true ↔ ∃ x,l[i]?=some x∧x.1=t)
theorem Parts.up {l:List (Int × Int)} {t:Int} {i j h:Nat} {x:Int × Int} (ha:Asc l) (hp:Parts l t i j) (hx:l[h]?=some x) (hlt:x.1<t):Parts l t (h+1) j :=
 ⟨fun q y hq hy=>by
  by_cases e:q=h
  ·subst e;rw [hx] at hy;cases hy;exact hlt
  ·have:=ha q h y x (by omega) hy hx;omega,hp.2⟩
theorem Parts.down {l:List (Int × Int)} {t:Int} {i j h:Nat} {x:Int × Int} (ha:Asc l) (hp:Parts l t i j) (hx:l[h]?=some x) (hge:t≤x.1):Parts l t i h :=
 ⟨hp.1,fun q y hq hy=>by
  by_cases e:q=h
  ·subst e;rw [hx] at hy;cases hy;exact hge
  ·have:=ha h q x y (by omega) hx hy;omega⟩
theorem fold_skip (t:Int) : ∀ (l:List (Int × Int)) (z:Int),(∀ x∈l,t<x.1)→l.foldl (fun n s=>if s.1≤t then s.2 else n) z=z
 | [],z,h=>rfl
 | x::l,z,h=>by
  rw [List.foldl_cons,if_neg (by have:=h x (by simp);omega)]
  exact fold_skip t l z fun y hy=>h y (by simp [hy])
def LastAt (l:List (Int × Int)) (t:Int) (i:Int):Prop := -1≤i∧i<l.length∧(∀ (q:Nat) x,(q:Int)=i→l[q]?=some x→x.1≤t)∧(∀ (q:Nat) x,i<q→l[q]?=some x→t<x.1)
theorem Found.no {l:List (Int × Int)} {t:Int} {i:Nat} (ha:Asc l) (h:Found l t i false):LastAt l t (i-1):=by
 obtain ⟨h1,h2,h3⟩:=h
 refine ⟨by omega,by omega,fun q y hq hy=>?_,fun q y hq hy=>?_⟩
 ·have:=h2.1 q y (by omega) hy;omega
 ·have h4:=h2.2 q y (by omega) hy
  by_cases e:q=i
  ·subst e
   have : ¬ y.1=t:=fun e=>by have:=h3.2 ⟨y,hy,e⟩;simp at this
   omega
  ·by_cases e2:y.1=t
   ·exfalso
    have hlt:i<l.length:=by have:=(List.getElem?_eq_some_iff.1 hy).1;omega
    have hxi:l[i]?=some l[i]:=List.getElem?_eq_getElem hlt
    have h5:=h2.2 i _ (Nat.le_refl _) hxi
    have h6:=ha i q _ y (by omega) hxi hy
    omega
   ·omega
def SAsc (l:List Int):Prop := ∀ (i j:Nat) (x y:Int),i<j→l[i]?=some x→l[j]?=some y→x<y
def Merged (a b P:List (Int)) (i k:Nat):Prop:=SAsc P∧(∀ x,x∈P↔x∈a.take i∨x∈b.take k)∧(∀ x∈P, ∀ (q:Nat) y,i≤q→a[q]?=some y→x≤y)∧(∀ x∈P, ∀ (q:Nat) y,k≤q→b[q]?=some y→x≤y)
def putI (l:List Int) (x:Int):List Int:=if l.getLast?=some x then l else l++[x]
theorem SAsc.snoc {l:List Int} {x:Int} (h:SAsc l) (hx : ∀ y∈l,y<x):SAsc (l++[x]):=by
 intro i j u v hij hu hv
 have hj:=(List.getElem?_eq_some_iff.1 hv).1
 simp at hj
 rw [List.getElem?_append_left (by omega)] at hu
 by_cases e:j=l.length
 ·subst e
  rw [List.getElem?_append_right (by omega)] at hv
  simp at hv
  subst hv
  exact hx u (List.mem_of_getElem? hu)
 ·rw [List.getElem?_append_left (by omega)] at hv
  exact h i j u v hij hu hv
theorem SAsc.le_last {l:List Int} {z:Int} (h:SAsc l) (hz:l.getLast?=some z) : ∀ y∈l,y≤z:=by
 intro y hy
 obtain ⟨i,hi,e⟩:=List.mem_iff_getElem.1 hy
 rw [List.getLast?_eq_getElem?] at hz
 have hyi:l[i]?=some y:=by rw [List.getElem?_eq_getElem hi,e]
 by_cases e2:i=l.length-1
 ·subst e2;rw [hyi] at hz;cases hz;omega
 ·have:=h i (l.length-1) y z (by omega) hyi hz;omega
theorem putI_asc {l:List Int} {x:Int} (h:SAsc l) (hx : ∀ y∈l,y≤x):SAsc (putI l x)∧(∀ y,y∈putI l x↔y∈l∨y=x):=by
 unfold putI
 by_cases e:l.getLast?=some x
 ·rw [if_pos e]
  refine ⟨h,fun y=>⟨.inl,fun hy=>?_⟩⟩
  rcases hy with hy|rfl
  ·exact hy
  ·exact List.mem_of_getLast? e
 ·rw [if_neg e]
  refine ⟨h.snoc fun y hy=>?_,fun y=>by simp⟩
  have h1:=hx y hy
  by_cases e2:y=x
  ·exfalso
   subst e2
   cases hl:l.getLast? with
   | none=>rw [List.getLast?_eq_none_iff] at hl;subst hl;simp at hy
   | some z =>
    have h2:=h.le_last hl y hy
    have h3:=hx z (List.mem_of_getLast? hl)
    have:z=y:=by omega
    subst this
    exact e hl
  ·omega
theorem mem_take_succ {l:List Int} {i:Nat} {x y:Int} (hx:l[i]?=some x):y∈l.take (i+1)↔y∈l.take i∨y=x:=by
 rw [List.take_add_one,hx];simp
theorem Merged.left {a b P:List Int} {i k:Nat} {x:Int} (h:Merged a b P i k) (ha:SAsc a) (hx:a[i]?=some x) (hb : ∀ (q:Nat) y,k≤q→b[q]?=some y→x≤y):Merged a b (putI P x) (i+1) k:=by
 obtain ⟨h1,h2,h3,h4⟩:=h
 obtain ⟨g1,g2⟩:=putI_asc h1 fun y hy=>h3 y hy i x (Nat.le_refl _) hx
 refine ⟨g1,fun y=>?_,fun y hy q z hq hz=>?_,fun y hy q z hq hz=>?_⟩
 ·rw [g2,h2,mem_take_succ hx]
  grind
 ·rcases (g2 y).1 hy with u|u
  ·exact h3 y u q z (by omega) hz
  ·subst u;have:=ha i q y z (by omega) hx hz;omega
 ·rcases (g2 y).1 hy with u|u
  ·exact h4 y u q z hq hz
  ·subst u;exact hb q z hq hz
theorem Merged.right {a b P:List Int} {i k:Nat} {x:Int} (h:Merged a b P i k) (hb:SAsc b) (hx:b[k]?=some x) (ha : ∀ (q:Nat) y,i≤q→a[q]?=some y→x≤y):Merged a b (putI P x) i (k+1):=by
 obtain ⟨h1,h2,h3,h4⟩:=h
 obtain ⟨g1,g2,g3,g4⟩:=Merged.left (a:=b) (b:=a) ⟨h1,fun y=>(h2 y).trans Or.comm,h4,h3⟩ hb hx ha
 exact ⟨g1,fun y=>(g2 y).trans Or.comm,g4,g3⟩
theorem SAsc.from {l:List Int} (h:SAsc l) {i:Nat} {x z:Int} (hx:l[i]?=some x) (hz:z≤x) : ∀ (q:Nat) y,i≤q→l[q]?=some y→z≤y:=by
 intro q y hq hy
 by_cases e:q=i
 ·subst e;rw [hx] at hy;cases hy;exact hz
 ·have:=h i q x y (by omega) hx hy;omega
theorem Asc.map {l:List (Int × Int)} (h:Asc l):SAsc (l.map (·.1)):=by
 intro i j x y hij hx hy
 simp at hx hy
 obtain ⟨u,hu⟩:=hx
 obtain ⟨v,hv⟩:=hy
 exact h i j _ _ hij hu hv
theorem mem_ins (n:Int) : ∀ (l:List Int) (y:Int),y∈ins n l↔y=n∨y∈l
 | [],y=>by simp [ins]
 | x::r,y=>by
  have:=mem_ins n r y
  unfold ins
  split
  ·simp only [List.mem_cons,this];grind
  ·split
   ·simp
   ·obtain rfl:x=n:=by omega
    simp
theorem SAsc.tail {x:Int} {l:List Int} (h:SAsc (x::l)):SAsc l:=fun i j u v hij hu hv=>h (i+1) (j+1) u v (by omega) (by simpa using hu) (by simpa using hv)
theorem SAsc.head {x:Int} {l:List Int} (h:SAsc (x::l)) : ∀ y∈l,x<y:=by
 intro y hy
 obtain ⟨i,hi,e⟩:=List.mem_iff_getElem.1 hy
 exact h 0 (i+1) x y (by omega) rfl (by simp [List.getElem?_eq_getElem hi,e])
theorem SAsc.cons {x:Int} {l:List Int} (h:SAsc l) (hx : ∀ y∈l,x<y):SAsc (x::l):=by
 intro i j u v hij hu hv
 match i,j,hij with
 | 0,j+1,_ =>
  simp at hu hv
  subst hu
  exact hx v (List.mem_of_getElem? hv)
 | i+1,j+1,hij=>exact h i j u v (by omega) (by simpa using hu) (by simpa using hv)
theorem SAsc.ins (n:Int) : ∀ {l:List Int}, SAsc l→SAsc (ins n l)
 | [],_=>by
  intro i j u v hij hu hv
  have h1:=(List.getElem?_eq_some_iff.1 hu).1
  have h2:=(List.getElem?_eq_some_iff.1 hv).1
  simp [Go.Proofs.YtfccopdbgfdcdaaGreatDoor.St.ins] at h1 h2
  omega
 | x::r,h=>by
  unfold Go.Proofs.YtfccopdbgfdcdaaGreatDoor.St.ins
  split
  ·refine (SAsc.ins n h.tail).cons fun y hy=>?_
   rcases (mem_ins n r y).1 hy with e|e
   ·omega
   ·exact h.head y e
  ·split
   ·refine h.cons fun y hy=>?_
    rcases List.mem_cons.1 hy with e|e
    ·omega
    ·have:=h.head y e;omega
   ·exact h
theorem SAsc.ext : ∀ {a b:List Int}, SAsc a→SAsc b→(∀ x,x∈a↔x∈b)→a=b
 | [],[],_,_,_=>rfl
 | [],y::b,_,_,h=>by have:=(h y).2 (by simp);simp at this
 | x::a,[],_,_,h=>by have:=(h x).1 (by simp);simp at this
 | x::a,y::b,ha,hb,h=>by
  have hxy:x=y:=by
   have h1:=(h x).1 (by simp)
   have h2:=(h y).2 (by simp)
   rcases List.mem_cons.1 h1 with e|e
   ·exact e
   ·rcases List.mem_cons.1 h2 with e2|e2
    ·exact e2.symm
    ·have:=hb.head x e;have:=ha.head y e2;omega
  subst hxy
  rw [SAsc.ext ha.tail hb.tail fun z=>⟨fun hz=>?_,fun hz=>?_⟩]
  ·rcases List.mem_cons.1 ((h z).1 (by simp [hz])) with e|e
   ·have:=ha.head z hz;omega
   ·exact e
  ·rcases List.mem_cons.1 ((h z).2 (by simp [hz])) with e|e
   ·have:=hb.head z hz;omega
   ·exact e
theorem SAsc.nil:SAsc []:=fun i j x y _ h=>by simp at h
def combS (f:Int→Int) (P:List Int):List (Int × Int):=P.foldl (fun acc p=>putS acc (p,f p)) []
theorem combS_take {f:Int→Int} {P:List Int} {k:Nat} {x:Int} (hx:P[k]?=some x):combS f (P.take (k+1))=putS (combS f (P.take k)) (x,f x):=foldl_take hx
theorem foldl_put_len (f:Int→Int) : ∀ (P:List Int) (acc:List (Int × Int)),acc.length≤(P.foldl (fun acc p=>putS acc (p,f p)) acc).length∧(P.foldl (fun acc p=>putS acc (p,f p)) acc).length≤acc.length+P.length
 | [],acc=>by simp
 | x::P,acc=>by
  have h1:=foldl_put_len f P (putS acc (x,f x))
  have h2:=putS_len acc (x,f x)
  simp only [List.foldl_cons,List.length_cons]
  omega
theorem combS_len (f:Int→Int) (P:List Int):(combS f P).length≤P.length:=by have:=(foldl_put_len f P []).2;unfold combS;simpa using this
theorem flatMap_set {α:Type} {enc:α→List Value} {k:Nat} (hk : ∀ x,(enc x).length=k) {x':α} {u:Value} {j:Nat} (hj:j<k) : ∀ {l:List α} {i:Nat} {x:α}, l[i]?=some x→enc x'=(enc x).set j u→(l.flatMap enc).set (i*k+j) u=(l.set i x').flatMap enc
 | [],i,x,h,_=>by simp at h
 | y::l,0,x,h,he=>by
  simp at h;subst h
  rw [List.set_cons_zero,List.flatMap_cons,List.flatMap_cons,he,Nat.zero_mul,Nat.zero_add,List.set_append_left _ _ (by rw [hk];exact hj)]
 | y::l,i+1,x,h,he=>by
  have:=flatMap_set hk hj (l:=l) (i:=i) (x:=x) (by simpa using h) he
  rw [List.set_cons_succ,List.flatMap_cons,List.flatMap_cons, ← this]
  have e:(i+1)*k+j=(enc y).length+(i*k+j):=by rw [hk,Nat.succ_mul];omega
  rw [e,List.set_append_right _ _ (by omega)]
  congr 2;omega
theorem Own.at {α:Type} {enc:α→List Value} {k:Nat} {w:World} {E:TypeId} {base n c:Nat} {A:Option Addr} {l:List α} (h:Own enc k E w base (.slice A n c) l) (h0:0<n) : ∃ g,A=some ⟨g,0,none⟩∧base≤g∧g<w.heap.size∧(∀ o,w.frozen? ⟨g,o,none⟩=false):=by
 rcases h.2 with ⟨hv,hx⟩|⟨g,cap,cur,hv,hb,hh,_⟩
 ·injection hv with h1 h2 h3;omega
 ·injection hv with h1 h2 h3
  exact ⟨g,h1,hb,(Array.getElem?_eq_some_iff.1 hh).1,fun o=>by simp [World.frozen?,hh]⟩
theorem Own.stored {α:Type} {enc:α→List Value} {k:Nat} {w:World} {E:TypeId} {base n c g i j:Nat} {l:List α} {x x':α} {u:Value} (hk : ∀ x,(enc x).length=k) (h:Own enc k E w base (.slice (some ⟨g,0,none⟩) n c) l) (hj:j<k) (hx:l[i]?=some x) (he:enc x'=(enc x).set j u) :
  Own enc k E (w.setCell ⟨g,i*k+j,none⟩ u) base (.slice (some ⟨g,0,none⟩) n c) (l.set i x'):=by
 have hl:=h.len
 subst hl
 have:=(World.ownsRow.stored h (i*k+j) u).1
 unfold Own
 rw [List.length_set, ← flatMap_set hk hj hx he]
 exact this
theorem takeWhile_len {α:Type} (q:α→Bool) : ∀ l:List α,(l.takeWhile q).length≤l.length
 | []=>by simp
 | a::l=>by
  have:=takeWhile_len q l
  rw [List.takeWhile_cons]
  split<;>simp<;>omega
theorem wrap_wl (a b:Int):wrap64 (wrap64 a+b)=wrap64 (a+b):=by unfold wrap64;omega
theorem wrap_wr (a b:Int):wrap64 (a+wrap64 b)=wrap64 (a+b):=by unfold wrap64;omega
theorem wrap_0:wrap64 0=0:=by unfold wrap64;omega
def rsum (l:List ((Int × Int) × Int)) (p:Int):Int:=l.foldl (fun n c=>if pcontains c.1 p then wrap64 (n+c.2) else n) 0
def isum (l:List ((Int × Int) × Int)) (p:Int):Int:=(l.map fun c=>if pcontains c.1 p then c.2 else 0).sum
theorem rsum_fold (p:Int) : ∀ (l:List ((Int × Int) × Int)) (z:Int),l.foldl (fun n c=>if pcontains c.1 p then wrap64 (n+c.2) else n) (wrap64 z)=wrap64 (z+isum l p)
 | [],z=>by simp [isum]
 | c::l,z=>by
  have hi:isum (c::l) p=(if pcontains c.1 p then c.2 else 0)+isum l p:=by simp [isum]
  rw [List.foldl_cons,hi]
  by_cases h:pcontains c.1 p=true
  ·rw [if_pos h,if_pos h,wrap_wl,rsum_fold p l]
   congr 1;omega
  ·rw [if_neg h,if_neg h,rsum_fold p l]
   congr 1;omega
theorem rsum_eq (l:List ((Int × Int) × Int)) (p:Int):rsum l p=wrap64 (isum l p):=by
 have:=rsum_fold p l 0
 rw [wrap_0,Int.zero_add] at this
 exact this
def chg1 (c:(Int × Int) × Int):List (Int × Int):=if pvalid c.1 then [(c.1.1,c.2),(c.1.2,wrap64 (-c.2))] else []
def chg (l:List ((Int × Int) × Int)):List (Int × Int):=l.flatMap chg1
def csum (X:List (Int × Int)) (p:Int):Int:=(X.map fun s=>if s.1≤p then s.2 else 0).sum
theorem csum_append (X Y:List (Int × Int)) (p:Int):csum (X++Y) p=csum X p+csum Y p:=by simp [csum]
theorem csum_chg1 (c:(Int × Int) × Int) (p:Int):wrap64 (csum (chg1 c) p)=wrap64 (if pcontains c.1 p then c.2 else 0):=by
 unfold chg1
 by_cases h:pvalid c.1=true
 ·rw [if_pos h]
  have hv:c.1.1<c.1.2:=by simp [pvalid] at h;omega
  by_cases h1:c.1.1≤p
  ·by_cases h2:c.1.2≤p
   ·have hc : ¬ pcontains c.1 p=true:=by simp [pcontains];omega
    rw [if_neg hc]
    simp only [csum,List.map_cons,List.map_nil,List.sum_cons,List.sum_nil,if_pos h1,if_pos h2]
    unfold wrap64;omega
   ·have hc:pcontains c.1 p=true:=by simp [pcontains,h];omega
    rw [if_pos hc]
    simp only [csum,List.map_cons,List.map_nil,List.sum_cons,List.sum_nil,if_pos h1,if_neg h2]
    congr 1;omega
  ·have hc : ¬ pcontains c.1 p=true:=by simp [pcontains];omega
   rw [if_neg hc]
   simp only [csum,List.map_cons,List.map_nil,List.sum_cons,List.sum_nil,if_neg h1,if_neg (show ¬ c.1.2≤p by omega)]
   rfl
 ·rw [if_neg h]
  have hc : ¬ pcontains c.1 p=true:=by simp [pcontains];intro e;exact absurd e h
  rw [if_neg hc];rfl
theorem csum_chg : ∀ (l:List ((Int × Int) × Int)) (p:Int),wrap64 (csum (chg l) p)=wrap64 (isum l p)
 | [],p=>rfl
 | c::l,p=>by
  have hi:isum (c::l) p=(if pcontains c.1 p then c.2 else 0)+isum l p:=by simp [isum]
  have hc:chg (c::l)=chg1 c++chg l:=by simp [chg]
  rw [hi,hc,csum_append, ← wrap_wl,csum_chg1,wrap_wl, ← wrap_wr,csum_chg l p,wrap_wr]
theorem csum_perm {X Y:List (Int × Int)} (h:X.Perm Y) (p:Int):csum X p=csum Y p:=by
 unfold csum
 induction h with
 | nil=>rfl
 | cons x _ ih=>simp only [List.map_cons,List.sum_cons,ih]
 | swap x y l=>simp only [List.map_cons,List.sum_cons];omega
 | trans _ _ ih1 ih2=>exact ih1.trans ih2
def wsum (X:List (Int × Int)):Int:=X.foldl (fun s c=>wrap64 (s+c.2)) 0
theorem wsum_fold : ∀ (X:List (Int × Int)) (z:Int),X.foldl (fun s c=>wrap64 (s+c.2)) (wrap64 z)=wrap64 (z+(X.map (·.2)).sum)
 | [],z=>by simp
 | c::X,z=>by
  rw [List.foldl_cons,wrap_wl,wsum_fold X]
  simp only [List.map_cons,List.sum_cons]
  congr 1;omega
theorem wsum_eq (X:List (Int × Int)):wsum X=wrap64 (X.map (·.2)).sum:=by
 have:=wsum_fold X 0
 rw [wrap_0,Int.zero_add] at this
 exact this
theorem wsum_take {X:List (Int × Int)} {k:Nat} {x y:Int} (hx:X[k]?=some (x,y)):wsum (X.take (k+1))=wrap64 (wsum (X.take k)+y):=foldl_take hx
theorem csum_all {X:List (Int × Int)} {p:Int} (h : ∀ s∈X,s.1≤p):csum X p=(X.map (·.2)).sum:=by
 unfold csum
 congr 1
 exact List.map_congr_left fun s hs=>if_pos (h s hs)
theorem csum_none : ∀ {X:List (Int × Int)} {p:Int}, (∀ s∈X,p<s.1)→csum X p=0
 | [],p,_=>rfl
 | s::X,p,h=>by
  have h1:csum (s::X) p=(if s.1≤p then s.2 else 0)+csum X p:=by simp [csum]
  rw [h1,if_neg (by have:=h s (by simp);omega),csum_none fun t ht=>h t (by simp [ht])];rfl
theorem value_at {l:List ((Int × Int) × Int)} {C:List (Int × Int)} {k:Nat} {p:Int} (hp:C.Perm (chg l)) (h1 : ∀ s∈C.take k,s.1≤p) (h2 : ∀ s∈C.drop k,p<s.1):wsum (C.take k)=rsum l p:=by
 rw [rsum_eq, ← csum_chg, ← csum_perm hp,wsum_eq, ← List.take_append_drop k C,csum_append,csum_all h1,csum_none h2]
 simp
def AscW (C:List (Int × Int)):Prop := ∀ (i j:Nat) (x y:Int × Int),i<j→C[i]?=some x→C[j]?=some y→x.1≤y.1
theorem AscW.of_pairwise {C:List (Int × Int)} (h:C.Pairwise fun x y=>x.1≤y.1):AscW C:=by
 intro i j x y hij hx hy
 obtain ⟨hi,rfl⟩:=List.getElem?_eq_some_iff.1 hx
 obtain ⟨hj,rfl⟩:=List.getElem?_eq_some_iff.1 hy
 exact List.pairwise_iff_getElem.1 h i j hi hj hij
theorem mem_drop_iff {α:Type} {C:List α} {k:Nat} {s:α} : s∈C.drop k ↔ ∃ q,k≤q∧C[q]?=some s:=by
 constructor
 ·intro h
  obtain ⟨i,hi,e⟩:=List.mem_iff_getElem.1 h
  exact ⟨k+i,by omega,by rw [← List.getElem?_drop,List.getElem?_eq_getElem hi,e]⟩
 ·rintro ⟨q,hq,e⟩
  have:(C.drop k)[q-k]?=some s:=by rw [List.getElem?_drop, ← e];congr 1;omega
  exact List.mem_of_getElem? this
theorem mem_take_iff {α:Type} {C:List α} {k:Nat} {s:α} : s∈C.take k ↔ ∃ q,q<k∧C[q]?=some s:=by
 constructor
 ·intro h
  obtain ⟨i,hi,e⟩:=List.mem_iff_getElem.1 h
  simp at hi
  exact ⟨i,by omega,by rw [← e,List.getElem_take,List.getElem?_eq_getElem (by omega)]⟩
 ·rintro ⟨q,hq,e⟩
  have:(C.take k)[q]?=some s:=by rw [List.getElem?_take_of_lt hq,e]
  exact List.mem_of_getElem? this
def Met (C:List (Int × Int)) (k:Nat) (Pr:List Int):Prop:=SAsc Pr∧(∀ x,x∈Pr↔x=0 ∨ ∃ y,(x,y)∈C.take k)∧(∀ x∈Pr, ∀ s∈C.drop k,x<s.1)
theorem Met.start {C:List (Int × Int)} {k:Nat} (h1 : ∀ s∈C.take k,s.1=0) (h2 : ∀ s∈C.drop k,0<s.1):Met C k [0]:=by
 refine ⟨SAsc.nil.snoc (by simp),fun x=>?_,fun x hx s hs=>?_⟩
 ·simp
  intro y hy
  exact h1 _ hy
 ·simp at hx
  subst hx
  exact h2 s hs
theorem Met.next {C:List (Int × Int)} {k j:Nat} {Pr:List Int} {x:Int} (h:Met C k Pr) (hkj:k<j) (hx : ∀ q s,k≤q→q<j→C[q]?=some s→s.1=x) (hj:j≤C.length) (h2 : ∀ s∈C.drop j,x<s.1):Met C j (Pr++[x]):=by
 obtain ⟨g1,g2,g3⟩:=h
 have hk:C[k]?=some C[k]:=List.getElem?_eq_getElem (by omega)
 have hxk:=hx k _ (Nat.le_refl _) hkj hk
 have hlt : ∀ y∈Pr,y<x:=fun y hy=>by
  have:=g3 y hy C[k] (mem_drop_iff.2 ⟨k,Nat.le_refl _,hk⟩)
  omega
 refine ⟨g1.snoc hlt,fun y=>?_,fun y hy s hs=>?_⟩
 ·rw [List.mem_append,g2,List.mem_singleton]
  constructor
  ·rintro ((e|⟨z,hz⟩)|e)
   ·exact .inl e
   ·obtain ⟨q,hq,e⟩:=mem_take_iff.1 hz
    exact .inr ⟨z,mem_take_iff.2 ⟨q,by omega,e⟩⟩
   ·subst e
    exact .inr ⟨C[k].2,mem_take_iff.2 ⟨k,hkj,by rw [hk, ← hxk]⟩⟩
  ·rintro (e|⟨z,hz⟩)
   ·exact .inl (.inl e)
   ·obtain ⟨q,hq,e⟩:=mem_take_iff.1 hz
    by_cases hqk:q<k
    ·exact .inl (.inr ⟨z,mem_take_iff.2 ⟨q,hqk,e⟩⟩)
    ·exact .inr (hx q _ (by omega) hq e)
 ·rcases List.mem_append.1 hy with e|e
  ·have h3:=h2 s hs
   have:=hlt y e
   omega
  ·simp at e
   subst e
   exact h2 s hs
theorem combS_snoc (f:Int→Int) (P:List Int) (x:Int):combS f (P++[x])=putS (combS f P) (x,f x):=by unfold combS;rw [List.foldl_append];rfl
def ofAll (l:List ((Int × Int) × Int)):List Int:=l.foldl (fun p c=>if pvalid c.1 then ins c.1.2 (ins c.1.1 p) else p) [0]
def ofPts (l:List ((Int × Int) × Int)):List Int:=(ofAll l).takeWhile fun p=>decide (p<1099511627776)
theorem ofAll_spec : ∀ (l:List ((Int × Int) × Int)) (p:List Int),SAsc p→SAsc (l.foldl (fun p c=>if pvalid c.1 then ins c.1.2 (ins c.1.1 p) else p) p) ∧
  ∀ x,x∈l.foldl (fun p c=>if pvalid c.1 then ins c.1.2 (ins c.1.1 p) else p) p↔x∈p ∨ ∃ y,(x,y)∈chg l
 | [],p,h=>⟨h,fun x=>by simp [chg]⟩
 | c::l,p,h=>by
  rw [List.foldl_cons]
  have hc:chg (c::l)=chg1 c++chg l:=by simp [chg]
  by_cases hv:pvalid c.1=true
  ·rw [if_pos hv]
   obtain ⟨g1,g2⟩:=ofAll_spec l _ ((h.ins c.1.1).ins c.1.2)
   refine ⟨g1,fun x=>?_⟩
   rw [g2,mem_ins,mem_ins,hc]
   have h1:chg1 c=[(c.1.1,c.2),(c.1.2,wrap64 (-c.2))]:=by unfold chg1;rw [if_pos hv]
   rw [h1]
   constructor
   ·rintro ((e|e|e)|⟨y,hy⟩)
    ·exact .inr ⟨wrap64 (-c.2),by simp [e]⟩
    ·exact .inr ⟨c.2,by simp [e]⟩
    ·exact .inl e
    ·exact .inr ⟨y,by simp [hy]⟩
   ·rintro (e|⟨y,hy⟩)
    ·exact .inl (.inr (.inr e))
    ·simp only [List.mem_append,List.mem_cons,List.not_mem_nil,or_false,Prod.mk.injEq] at hy
     rcases hy with (⟨e,_⟩|⟨e,_⟩)|e
     ·exact .inl (.inr (.inl e))
     ·exact .inl (.inl e)
     ·exact .inr ⟨y,e⟩
  ·rw [if_neg hv]
   obtain ⟨g1,g2⟩:=ofAll_spec l _ h
   refine ⟨g1,fun x=>?_⟩
   rw [g2,hc]
   have h1:chg1 c=[]:=by unfold chg1;rw [if_neg hv]
   rw [h1,List.nil_append]
theorem SAsc.takeWhile {b:Int} : ∀ {l:List Int}, SAsc l→SAsc (l.takeWhile fun p=>decide (p<b)) ∧ ∀ x,x∈l.takeWhile (fun p=>decide (p<b))↔x∈l∧x<b
 | [],h=>⟨h,fun x=>by simp⟩
 | a::l,h=>by
  obtain ⟨g1,g2⟩:=SAsc.takeWhile (b:=b) h.tail
  by_cases hab:a<b
  ·rw [List.takeWhile_cons_of_pos (by simpa using hab)]
   refine ⟨g1.cons fun y hy=>h.head y ((g2 y).1 hy).1,fun x=>?_⟩
   rw [List.mem_cons,g2,List.mem_cons]
   constructor
   ·rintro (rfl|⟨e1,e2⟩)
    ·exact ⟨.inl rfl,hab⟩
    ·exact ⟨.inr e1,e2⟩
   ·rintro ⟨rfl|e1,e2⟩
    ·exact .inl rfl
    ·exact .inr ⟨e1,e2⟩
  ·rw [List.takeWhile_cons_of_neg (by simpa using hab)]
   refine ⟨.nil,fun x=>⟨fun hx=>by simp at hx,fun ⟨hx,hlt⟩=>?_⟩⟩
   rcases List.mem_cons.1 hx with e|e
   ·omega
   ·have:=h.head x e;omega
theorem ofPts_spec (l:List ((Int × Int) × Int)):SAsc (ofPts l) ∧ ∀ x,x∈ofPts l↔(x=0 ∨ ∃ y,(x,y)∈chg l)∧x<1099511627776:=by
 obtain ⟨g1,g2⟩:=ofAll_spec l [0] (SAsc.nil.snoc (by simp))
 obtain ⟨g3,g4⟩:=SAsc.takeWhile (b:=1099511627776) (l:=ofAll l) g1
 refine ⟨g3,fun x=>?_⟩
 have:=g2 x
 rw [List.mem_singleton] at this
 exact (g4 x).trans (by rw [← this];exact Iff.rfl)
theorem Met.done {l:List ((Int × Int) × Int)} {C:List (Int × Int)} {k:Nat} {Pr:List Int} (hp:C.Perm (chg l)) (h:Met C k Pr) (h1 : ∀ s∈C.take k,s.1<1099511627776) (h2 : ∀ s∈C.drop k,1099511627776≤s.1):Pr=ofPts l:=by
 obtain ⟨g1,g2,_⟩:=h
 obtain ⟨g3,g4⟩:=ofPts_spec l
 refine g1.ext g3 fun x=>?_
 rw [g2,g4]
 constructor
 ·rintro (e|⟨y,hy⟩)
  ·exact ⟨.inl e,by omega⟩
  ·exact ⟨.inr ⟨y,hp.mem_iff.1 (List.mem_of_mem_take hy)⟩,h1 _ hy⟩
 ·rintro ⟨e|⟨y,hy⟩,hlt⟩
  ·exact .inl e
  ·have hy':=hp.mem_iff.2 hy
   rw [← List.take_append_drop k C,List.mem_append] at hy'
   rcases hy' with e|e
   ·exact .inr ⟨y,e⟩
   ·have:=h2 _ e;simp at this;omega
def segs:List (Int × Int)→List ((Int × Int) × Int)
 | []=>[]
 | [x]=>[((x.1,1099511627776),x.2)]
 | x::y::r=>((x.1,y.1),x.2)::segs (y::r)
theorem segs_len : ∀ l:List (Int × Int),(segs l).length=l.length
 | []=>rfl
 | [x]=>rfl
 | x::y::r=>by simp [segs,segs_len (y::r)]
theorem segs_get : ∀ (l:List (Int × Int)) (i:Nat) (x:Int × Int),l[i]?=some x→(segs l)[i]?=some ((x.1,((l[i+1]?).map (·.1)).getD 1099511627776),x.2)
 | [],i,x,h=>by simp at h
 | [a],0,x,h=>by simp at h;subst h;simp [segs]
 | [a],i+1,x,h=>by simp at h
 | a::b::r,0,x,h=>by simp at h;subst h;simp [segs]
 | a::b::r,i+1,x,h=>by
  have:=segs_get (b::r) i x (by simpa using h)
  simpa [segs] using this
def joinP (l:List (Int × Int)) (p:Int × Int):List (Int × Int) :=
 match l.getLast? with
 | some q=>if p.1≤q.2 then l.dropLast++[(q.1,max q.2 p.2)] else l++[p]
 | none=>l++[p]
def atStep (n:Int) (out:List (Int × Int)) (g:(Int × Int) × Int):List (Int × Int):=if n≤g.2 then joinP out g.1 else out
def atl (l:List (Int × Int)) (n:Int):List (Int × Int):=(segs l).foldl (atStep n) []
theorem joinP_len (l:List (Int × Int)) (p:Int × Int):(joinP l p).length≤l.length+1:=by
 unfold joinP
 split
 ·split
  ·simp
   try omega
  ·simp
 ·simp
theorem atStep_len (n:Int) (l:List (Int × Int)) (g:(Int × Int) × Int):(atStep n l g).length≤l.length+1:=by
 unfold atStep
 split
 ·exact joinP_len _ _
 ·omega
theorem atFold_len (n:Int) : ∀ (s:List ((Int × Int) × Int)) (out:List (Int × Int)),(s.foldl (atStep n) out).length≤out.length+s.length
 | [],out=>by simp
 | g::s,out=>by
  have h1:=atFold_len n s (atStep n out g)
  have h2:=atStep_len n out g
  simp only [List.foldl_cons,List.length_cons]
  omega
end Go.Proofs.YtfccopdbgfdcdaaGreatDoor.St
