/- Parts. No condition. -/
import Derived.Test.YtlcceppoloaecaaGreatDoorKBB
set_option linter.unusedSimpArgs false
set_option linter.unusedVariables false
namespace Go.Proofs.YtlcceppoloaecaaGreatDoor.St
open Go.RowKit
theorem K8 (l:List (Int×Int))(p:Int×Int):fh l p≠[]:=by
 unfold fh;split
 ·split<;>simp
 ·simp
theorem EY (n:Int):∀ (s:List ((Int×Int)×Int)) (out:List (Int×Int)),out≠[]→s.foldl (cF n) out≠[]
 |[],out,h=>h
 |g::s,out,h=>by
  rw[List.foldl_cons];refine EY n s _ ?_;unfold cF;split
  ·exact K8 _ _
  ·exact h
theorem yC (n:Int):∀ (s:List ((Int×Int)×Int)),(∀ g∈s,g.2<n)↔s.foldl (cF n) []=[]
 |[]=>by simp
 |g::s=>by
  rw[List.foldl_cons];by_cases h:n≤g.2
  ·constructor
   ·intro hg;have:=hg g m5;omega
   ·intro e
    exact absurd e (EY n s _ (by unfold cF;rw[if_pos h];exact K8 _ _))
  ·have e1:cF n [] g=[]:=by unfold cF;rw[if_neg h]
   rw[e1,← yC n s];constructor
   ·intro hg q hq;exact hg q (by simp[hq])
   ·intro hg q hq
    obtain e|e:=List.mem_cons.1 hq
    ·subst e;omega
    ·exact hg q e
theorem xj:∀ l:List (Int×Int),(mc l).map (·.2)=l.map (·.2)
 |[]=>rfl
 |[x]=>rfl
 |x::y::r=>by
  have:=xj (y::r);simp only[mc,List.map_cons]at this ⊢;rw[this]
theorem C6 {l:List (Int×Int)}{n:Int}:Is l n=[] ↔ ∀ s∈l,s.2<n:=by
 unfold Is;rw[← yC];constructor
 ·intro h s hs
  have h1:s.2∈(mc l).map (·.2):=by rw[xj];exact List.mem_map_of_mem hs
  obtain⟨g,hg,e⟩:=List.mem_map.1 h1;rw[← e];exact h g hg
 ·intro h g hg
  have h1:g.2∈l.map (·.2):=by rw[← xj];exact List.mem_map_of_mem hg
  obtain⟨s,hs,e⟩:=List.mem_map.1 h1;rw[← e];exact h s hs
def pQ (l:List (Int×Int))(k:Nat):List (Int×Int):=(List.range k).flatMap λj:Nat=>Is l ((j:Int)+1)
theorem uf (l:List (Int×Int))(k:Nat):pQ l (k+1)=pQ l k++Is l ((k:Int)+1):=by
 unfold pQ;rw[List.range_succ,List.flatMap_append];simp
theorem adc (l:List (Int×Int))(n:Int):(Is l n).length≤l.length:=by
 have:=H_ l n l.length;rwa[Ic l n (Nat.le_refl _)]at this
theorem D3 (l:List (Int×Int)):∀ k,(pQ l k).length≤k*l.length
 |0=>by simp[pQ]
 |k+1=>by
  have h1:=D3 l k;have h2:=adc l ((k:Int)+1);rw[uf,List.length_append,Nat.succ_mul];omega
