/- Parts. No condition. -/
import Derived.Test.YtlcceppoloaecaaGreatDoorXAZ
set_option linter.unusedSimpArgs false
set_option linter.unusedVariables false
namespace Go.Proofs.YtlcceppoloaecaaGreatDoor.St
open Go.RowKit
theorem NM (l:List (Int×Int))(p:Int×Int):fc l p≠[]:=by
 unfold fc;split
 ·split<;>simp
 ·simp
theorem HB (n:Int):∀ (s:List ((Int×Int)×Int)) (out:List (Int×Int)),out≠[]→s.foldl (cF n) out≠[]
 |[],out,h=>h
 |g::s,out,h=>by
  rw[List.foldl_cons];refine HB n s _ ?_;unfold cF;split
  ·exact NM _ _
  ·exact h
theorem Fa (n:Int):∀ (s:List ((Int×Int)×Int)),(∀ g∈s,g.2<n)↔s.foldl (cF n) []=[]
 |[]=>by simp
 |g::s=>by
  rw[List.foldl_cons];by_cases h:n≤g.2
  ·constructor
   ·intro hg;have:=hg g m5;omega
   ·intro e
    exact absurd e (HB n s _ (by unfold cF;rw[if_pos h];exact NM _ _))
  ·have e1:cF n [] g=[]:=by unfold cF;rw[if_neg h]
   rw[e1,← Fa n s];constructor
   ·intro hg q hq;exact hg q (by simp[hq])
   ·intro hg q hq
    rcases List.mem_cons.1 hq with e|e
    ·subst e;omega
    ·exact hg q e
theorem yA:∀ l:List (Int×Int),(kS l).map (·.2)=l.map (·.2)
 |[]=>rfl
 |[x]=>rfl
 |x::y::r=>by
  have:=yA (y::r);simp only[kS,List.map_cons]at this ⊢;rw[this]
theorem Bm {l:List (Int×Int)}{n:Int}:EM l n=[] ↔ ∀ s∈l,s.2<n:=by
 unfold EM;rw[← Fa];constructor
 ·intro h s hs
  have h1:s.2∈(kS l).map (·.2):=by rw[yA];exact List.mem_map_of_mem hs
  obtain⟨g,hg,e⟩:=List.mem_map.1 h1;rw[← e];exact h g hg
 ·intro h g hg
  have h1:g.2∈l.map (·.2):=by rw[← yA];exact List.mem_map_of_mem hg
  obtain⟨s,hs,e⟩:=List.mem_map.1 h1;rw[← e];exact h s hs
def oJ (l:List (Int×Int))(k:Nat):List (Int×Int):=(List.range k).flatMap fun j:Nat=>EM l ((j:Int)+1)
theorem v7 (l:List (Int×Int))(k:Nat):oJ l (k+1)=oJ l k++EM l ((k:Int)+1):=by
 unfold oJ;rw[List.range_succ,List.flatMap_append];simp
theorem adV (l:List (Int×Int))(n:Int):(EM l n).length≤l.length:=by
 have:=KN l n l.length;rwa[Kp l n (Nat.le_refl _)]at this
theorem HT (l:List (Int×Int)):∀ k,(oJ l k).length≤k*l.length
 |0=>by simp[oJ]
 |k+1=>by
  have h1:=HT l k;have h2:=adV l ((k:Int)+1);rw[v7,List.length_append,Nat.succ_mul];omega
