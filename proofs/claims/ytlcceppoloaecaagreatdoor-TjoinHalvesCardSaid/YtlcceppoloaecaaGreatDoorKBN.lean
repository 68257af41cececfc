/- Parts. No condition. -/
import Derived.Test.YtlcceppoloaecaaGreatDoorKBD
set_option linter.unusedSimpArgs false
set_option linter.unusedVariables false
namespace Go.Proofs.YtlcceppoloaecaaGreatDoor.St
open Go.RowKit
theorem KP (l:List (Int×Int))(p:Int×Int):eY l p≠[]:=by
 unfold eY;split
 ·split<;>simp
 ·simp
theorem Gs (n:Int):∀ (s:List ((Int×Int)×Int)) (out:List (Int×Int)),out≠[]→s.foldl (cE n) out≠[]
 |[],out,h=>h
 |g::s,out,h=>by
  rw[List.foldl_cons];refine Gs n s _ ?_;unfold cE;split
  ·exact KP _ _
  ·exact h
theorem En (n:Int):∀ (s:List ((Int×Int)×Int)),(∀ g∈s,g.2<n)↔s.foldl (cE n) []=[]
 |[]=>by simp
 |g::s=>by
  rw[List.foldl_cons];by_cases h:n≤g.2
  ·constructor
   ·intro hg;have:=hg g m5;omega
   ·intro e
    exact absurd e (Gs n s _ (by unfold cE;rw[if_pos h];exact KP _ _))
  ·have e1:cE n [] g=[]:=by unfold cE;rw[if_neg h]
   rw[e1,← En n s];constructor
   ·intro hg q hq;exact hg q (by simp[hq])
   ·intro hg q hq
    rcases List.mem_cons.1 hq with e|e
    ·subst e;omega
    ·exact hg q e
theorem xK:∀ l:List (Int×Int),(kC l).map (·.2)=l.map (·.2)
 |[]=>rfl
 |[x]=>rfl
 |x::y::r=>by
  have:=xK (y::r);simp only[kC,List.map_cons]at this ⊢;rw[this]
theorem AK {l:List (Int×Int)}{n:Int}:DI l n=[] ↔ ∀ s∈l,s.2<n:=by
 unfold DI;rw[← En];constructor
 ·intro h s hs
  have h1:s.2∈(kC l).map (·.2):=by rw[xK];exact List.mem_map_of_mem hs
  obtain⟨g,hg,e⟩:=List.mem_map.1 h1;rw[← e];exact h g hg
 ·intro h g hg
  have h1:g.2∈l.map (·.2):=by rw[← xK];exact List.mem_map_of_mem hg
  obtain⟨s,hs,e⟩:=List.mem_map.1 h1;rw[← e];exact h s hs
def nr (l:List (Int×Int))(k:Nat):List (Int×Int):=(List.range k).flatMap fun j:Nat=>DI l ((j:Int)+1)
theorem ug (l:List (Int×Int))(k:Nat):nr l (k+1)=nr l k++DI l ((k:Int)+1):=by
 unfold nr;rw[List.range_succ,List.flatMap_append];simp
theorem acg (l:List (Int×Int))(n:Int):(DI l n).length≤l.length:=by
 have:=IV l n l.length;rwa[II l n (Nat.le_refl _)]at this
theorem GI (l:List (Int×Int)):∀ k,(nr l k).length≤k*l.length
 |0=>by simp[nr]
 |k+1=>by
  have h1:=GI l k;have h2:=acg l ((k:Int)+1);rw[ug,List.length_append,Nat.succ_mul];omega
