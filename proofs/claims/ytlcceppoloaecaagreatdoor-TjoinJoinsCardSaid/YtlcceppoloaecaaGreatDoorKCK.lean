/- Parts of the proof, joined. No condition. -/
import Derived.Test.YtlcceppoloaecaaGreatDoorKAA
import Derived.Test.YtlcceppoloaecaaGreatDoorKCJ
set_option linter.unusedSimpArgs false
set_option linter.unusedVariables false
namespace Go.Proofs.YtlcceppoloaecaaGreatDoor
open Go.RowKit Go.MapKept
def agO (a b:bH) (e:Ex):Prop:=IC a b e/\(1<=b.kinds.length/\b.kinds.length<=48)/\b.facts.length<=12
open Classical in
noncomputable def Fb (a b:bH) (e:Ex):Option bH:=if agO a b e then (ya (Ce e a.facts b.facts)).bind fun r=>if r.length<=1000 then (ya (r++qz e b.kinds.length a.facts b.facts)).map fun s=>⟨a.kinds++b.kinds,s⟩ else none else none
theorem JJ {a b r:bH} {e:Ex} (H:Fb a b e=some r):Pure Tryz.prog 20 [.agg (bD a), .agg (bD b), .agg (tE e)] (.val (.agg (bD r))):=by
 unfold Fb at H
 split at H
 ·rename_i h
  obtain ⟨l,hl,H⟩:=bd_ H
  split at H
  ·rename_i hr
   cases hg:ya (l++qz e b.kinds.length a.facts b.facts) with
   | none=>rw [hg] at H;cases H
   | some s =>
    rw [hg] at H
    obtain rfl:=aqw H
    exact adQ a b e h.1 h.2.1 h.2.2 hl hr hg
  ·cases H
 ·cases H
end Go.Proofs.YtlcceppoloaecaaGreatDoor
