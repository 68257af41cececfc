/- Parts of the proof, joined. No condition. -/
import Derived.Test.YtlcceppoloaecaaGreatDoorKAA
import Derived.Test.YtlcceppoloaecaaGreatDoorKCN
import Derived.Test.YtlcceppoloaecaaGreatDoorKCM
import Derived.Test.YtlcceppoloaecaaGreatDoorKBJ
set_option linter.unusedSimpArgs false
set_option linter.unusedVariables false
namespace Go.Proofs.YtlcceppoloaecaaGreatDoor
open Go.RowKit Go.MapKept
theorem MM (a b:bH) (e:Ex):De a b e=some true:=by
 obtain ⟨c,hc,hok⟩:=qE a b e
 unfold De
 rw [hc,apZ]
 cases c with
 | false=>rfl
 | true =>
  have h:=hok rfl
  have hk:(a.kinds++b.kinds).length<=1000000:=by have:=h.kab;rw [ap8];omega
  rw [Bool.not_true,ap1,JR h,apZ,aaF h,apZ,ahI h,apZ,ap2,Je h,apZ,aa5 h,apZ,uR hk (cB (rD h))];rfl
theorem KY {a b:bH} {e:Ex} (q0:rz a) (q1:rz b) (q2:Ik e):Pure Tryz.prog 4 [.agg (bD a), .agg (bD b), .agg (tE e)] (.val (.one (.bool true))):=UT (MM a b e)
end Go.Proofs.YtlcceppoloaecaaGreatDoor
