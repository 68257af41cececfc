/- Parts of the proof, joined. No condition. -/
import Derived.Test.YtlcceppoloaecaaGreatDoorKAA
import Derived.Test.YtlcceppoloaecaaGreatDoorKBQ
import Derived.Test.YtlcceppoloaecaaGreatDoorKBG
set_option linter.unusedSimpArgs false
set_option linter.unusedVariables false
namespace Go.Proofs.YtlcceppoloaecaaGreatDoor
open Go.RowKit Go.MapKept
theorem yf (a b:List aV) (rel:Int):n_ a b rel=some true:=by
 unfold n_
 by_cases h1:(24:Int)<((a.length:Nat):Int)
 ·rw [Vg h1];rfl
 rw [Vf h1,Vd]
 by_cases h2:(24:Int)<((b.length:Nat):Int)
 ·rw [Vg h2];rfl
 rw [Vf h2,Vd]
 have ha:a.length<=24:=by omega
 have hb:b.length<=24:=by omega
 have hl : ∀ q:aV->aV->Bool,(cO q b a 0).length<=1000000:=fun q=>by
  have:=wH q b a 0
  have h3:a.length*b.length<=24*24:=Nat.mul_le_mul ha hb
  omega
 unfold om
 rw [Vg (show a.length<=1000 by omega),Vg (show b.length<=1000 by omega),Bool.and_self,Ve,Va,E5 a b (by omega) (by omega),Va,uA _ (hl _),Va,Ve,
  z_ rel a b (by omega) (by omega),Va,EK rel a b (by omega) (by omega),Va,uA _ (hl _),Va]
 rfl
theorem uY {a b:List aV} {rel:Int} (q0:mE 40 mF a) (q1:mE 40 mF b) (q2:vE rel):Pure Tryz.prog 3 [.one (.lst (a.map a_)), .one (.lst (b.map a_)), .one (.int .i64 rel)] (.val (.one (.bool true))):=Bt (yf a b rel)
end Go.Proofs.YtlcceppoloaecaaGreatDoor
