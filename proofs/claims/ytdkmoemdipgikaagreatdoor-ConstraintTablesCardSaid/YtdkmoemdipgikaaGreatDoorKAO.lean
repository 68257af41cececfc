/- Parts. No condition. -/
import Derived.Test.YtdkmoemdipgikaaGreatDoorKAI
import Derived.Test.YtdkmoemdipgikaaGreatDoorKAN
set_option linter.unusedSimpArgs false
set_option linter.unusedVariables false
namespace Go.Proofs.YtdkmoemdipgikaaGreatDoor.St
open Go.RowKit Go.Shelf Go.Lib Go.Sort
section
variable {α:Type} [Inhabited α] {enc:α→List Value} {k:Nat} {w w':World} {E:TypeId} {base:Nat}
theorem EO (hk:∀ x,(enc x).length=k)(l:List α)(j:Nat)(hj:j<l.length*k):(flatK enc k l.toArray)[j]?=(l.flatMap enc)[j]?:=by
 have hk0:0<k:=by
  rcases Nat.eq_zero_or_pos k with h|h
  ·rw[h]at hj;simp at hj
  ·exact h
 have hi:j/k<l.length:=Nat.div_lt_of_lt_mul (by rw[Nat.mul_comm];exact hj);have hr:j%k<k:=Nat.mod_lt _ hk0;have h1:=kT hk l (j/k) l[j/k] (List.getElem?_eq_getElem hi) (j%k) hr;rw[Nat.div_add_mod' j k]at h1;rw[h1];have hs:j<(flatK enc k l.toArray).size:=by simp;exact hj
 rw[Array.getElem?_eq_getElem hs,← getElem!_pos _ j hs,get_flatK _ _ _ _ (by simpa using hj)];have h2:l.toArray[j/k]! =l[j/k]:=by simp[hi]
 rw[h2,List.getElem?_eq_getElem (by rw[hk];exact hr)];simp[hk,hr]
theorem Gs (hk:∀ x,(enc x).length=k){l:List α}{g:Nat}{cur:Array Value}(hh:w.heap[g]?=some (.cells cur E (0,0)))(ht:cur.toList.take (l.length*k)=l.flatMap enc):HoldsK enc k w g 0 l.toArray:=by
 intro j hj;have hj':j<l.length*k:=by simpa using hj
 refine⟨?_,by simp[World.frozen?,hh]⟩;have hc:=cell_of_row w g j cur E (0,0) hh;rw[Nat.zero_add,hc,← Array.getElem?_toList,← List.getElem?_take_of_lt hj',ht,← EO hk l j hj'];rw[Array.getElem?_eq_getElem hj,getElem!_pos _ j hj];rfl
theorem MB (hk:∀ x,(enc x).length=k){l l':List α}{g cap n:Nat}{os:Array Obj}{cur:Array Value}(hl:l'.length=l.length)(hbase:base≤g)(hh:w.heap[g]?=some (.cells cur E (0,0)))
  (h1:l.length≤cap) (h2:cap≤maxLen) (h3:cur.size=cap*k) :
  Own enc k E (sortWorldK enc k w g 0 n l'.toArray os) base (.slice (some ⟨g,0,none⟩) l.length cap) l':=by
 have hg:g<w.heap.size:=(Array.getElem?_eq_some_iff.1 hh).1;have hb:(sortWorldK enc k w g 0 n l'.toArray os).heap[g]?=some (.cells (putCells id 0 (flatK enc k l'.toArray) cur) E (0,0)):=by
  unfold sortWorldK putRowK;rw[heap_grow_old _ _ (by simpa using hg)];simp[putRow,mapBlock,Sort.ahead,Array.getElem?_modify,hh,onCells]
 have hcap:l'.length*k≤cap*k:=Nat.mul_le_mul_right k m0S;refine⟨by rw[gx hk],.inr ⟨g,cap,_,by rw[hl],hbase,hb,m0S,h2,by simp[putCells,h3],?_⟩⟩;apply List.ext_getElem?;intro j;by_cases hj:j<l'.length*k
 ·rw[List.getElem?_take_of_lt hj,Array.getElem?_toList,← EO hk l' j hj]
  have hs:j<(flatK enc k l'.toArray).size:=by simpa using hj
  have hjc:j<cur.size:=m0S
  have e1:(putCells id 0 (flatK enc k l'.toArray) cur)[j]?=some ((flatK enc k l'.toArray)[j]!):=by
   simp[putCells,hjc,hj]
  rw[e1,Array.getElem?_eq_getElem hs,getElem!_pos (flatK enc k l'.toArray) j hs]
 ·rw[List.getElem?_take_eq_none m0S,List.getElem?_eq_none (by rw[gx hk];omega)]
theorem GZ {g n:Nat}{os:Array Obj}(d:Array α)(hg:base≤g)(hb:base≤w.heap.size):Below base w (sortWorldK enc k w g 0 n d os):=by
 refine⟨rfl,rfl,rfl,size_sortWorldK_c _ _ _ _ _ _ _ _,fun j hj=>?_⟩;unfold sortWorldK putRowK;rw[heap_grow_old _ _ m8S];have:g≠j:=m0S
 simp[putRow,mapBlock,Sort.ahead,Array.getElem?_modify,this]
theorem I4 {P:Program}{ρ:Ren}(L:SlLaysF0.n6 P ρ)(aE:∀ w,(isAgg (ρ.t 24)).run P w = .ok true w)(zE:∀ w,(Go.sizeOf (ρ.t 24)).run P w = .ok k w)(hk:∀ x,(enc x).length=k)(h1:∀ x,∀ v∈enc x,v.oneCell'=true)
  (cf:α→α→Int) (hO:SWO (ltOf cf)) (g:Nat) (eg:∀ args w,(callFunc g args).run P w = .ok (.enter g args) w)
  (hcmp:∀ x y W,Calls P g #[.agg (enc x).toArray,.agg (enc y).toArray] W fun e w'=>e = .returned (.int .i64 (cf x y))∧∃ q os',w'=grow (W.drewN q) os')
  (base:Nat) (A:Option Addr) (n c:Nat) (l:List α) (w:World) (ho:Own enc k E w base (.slice A n c) l) (hn:n≤1000000000) (hbase:base≤w.heap.size) :
  Calls P (ρ.f 6) #[.slice A n c,.func (.func g) #[] #[]] w fun e w'=>e = .returned (.tuple #[])∧∃ l',l'.Perm l∧l'.Pairwise (fun x y =>¬ cf y x<0)∧Own enc k E w' base (.slice A n c) l'∧Below base w w':=by
 have hlen:=ho.len;rcases ho.2 with⟨hv,hz⟩|⟨gb,cap,cur,hv,hg,hh,hc1,hc2,hc3,hc4⟩
 ·have hl:l=[]:=List.eq_nil_of_length_eq_zero hz
  have hn0:n=0:=m0S
  subst hl hn0;exact(AnyF.slices_SortFunc_none { L with } A c _ w).mono fun e w' ⟨he,hw⟩=>by
   subst hw;exact⟨he,[],.refl _,.nil,ho,Below.refl _ _⟩
 ·have hgl:gb<w.heap.size:=(Array.getElem?_eq_some_iff.1 hh).1
  injection hv with hA hn' hcap
  subst hA hcap;obtain rfl:n=l.length:=hlen.symm;have hcon:=AnyQ.slices_SortFunc L k aE zE enc hk h1 cf hO g #[] gb 0 c l.toArray w eg (fun m os dk hs x y=>hcmp x y _) (Gs hk hh hc4) hgl m8S;simp only[List.size_toArray]at hcon;refine hcon.mono fun e w' ⟨he,d',n',os,hp,hs,hw⟩=>?_
  subst hw;obtain⟨p1,_,p2⟩:=hp;have p1':d'.toList.length=l.length:=by simpa using p1
  have e0:d'=d'.toList.toArray:=by simp
  have hperm:d'.toList.Perm l:=by
   have a1:(d'.extract 0 l.length).toList=d'.toList:=by simp[← p1']
   have a2:(l.toArray.extract 0 l.length).toList=l:=by simp
   rw[a1,a2]at p2;exact p2
  refine⟨he,d'.toList,hperm,?_,?_,GZ d' hg hbase⟩
  ·rw[List.pairwise_iff_getElem]
   intro i j hi hj hij;have:=hs i j (Nat.zero_le _) hij m0S;unfold ltOf at this;have h2:=of_decide_eq_false this;have hi':i<d'.size:=by simpa using hi
   have hj':j<d'.size:=by simpa using hj
   rw[getElem!_pos d' i hi',getElem!_pos d' j hj']at h2;simpa using h2
  ·have:=MB (w:=w) (E:=E) (base:=base) (n:=n') (os:=os) hk (l':=d'.toList) p1' hg hh hc1 hc2 hc3
   rw[← e0]at this;exact this
end
