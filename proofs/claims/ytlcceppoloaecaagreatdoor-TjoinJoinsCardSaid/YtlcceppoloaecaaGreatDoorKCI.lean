/- Parts of the proof, joined. No condition. -/
import Derived.Test.YtlcceppoloaecaaGreatDoorKAA
import Derived.Test.YtlcceppoloaecaaGreatDoorKCH
import Derived.Test.YtlcceppoloaecaaGreatDoorKBW
set_option linter.unusedSimpArgs false
set_option linter.unusedVariables false
namespace Go.Proofs.YtlcceppoloaecaaGreatDoor
open Go.RowKit Go.MapKept
structure IC (a b:bH) (e:Ex):Prop where
 ha:a.facts.length<=12
 hb:b.facts.length<=1000
 hra : ∀ f∈a.facts,0<f.row.length/\f.row.length<=1000
 hrb : ∀ f∈b.facts,f.row.length<=1000
 hv : ∀ f∈a.facts,aD f.valid=true
 he:lF fuel e
 hka:a.kinds.length<=1000
 hkb:b.kinds.length<=1000
open Classical in
noncomputable def yn (a b:bH) (e:Ex):Option bH:=if IC a b e then (ya (Ce e a.facts b.facts)).map fun r=>⟨a.kinds++b.kinds,r⟩ else none
theorem wE {a b r:bH} {e:Ex} (H:yn a b e=some r):Pure Tryz.prog 18 [.agg (bD a), .agg (bD b), .agg (tE e)] (.val (.agg (bD r))):=by
 unfold yn at H
 split at H
 ·rename_i h
  cases hg:ya (Ce e a.facts b.facts) with
  | none=>rw [hg] at H;cases H
  | some l =>
   rw [hg] at H
   obtain rfl:=aqw H
   obtain ⟨gs,q,hrun⟩:=Yd a b e (by have:=h.ha;omega) h.hb h.hra h.hrb h.he h.hka h.hkb hg
   exact Wo hrun rfl
 ·cases H
set_option maxRecDepth 100000
set_option maxHeartbeats 8000000
end Go.Proofs.YtlcceppoloaecaaGreatDoor
