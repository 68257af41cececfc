/- Parts of the proof, joined. No condition. -/
import Derived.Test.YtlcceppoloaecaaGreatDoorKAA
import Derived.Test.YtlcceppoloaecaaGreatDoorKAJ
import Derived.Test.YtlcceppoloaecaaGreatDoorKBK
import Derived.Test.YtlcceppoloaecaaGreatDoorKBL
import Derived.Test.YtlcceppoloaecaaGreatDoorKBP
set_option linter.unusedSimpArgs false
set_option linter.unusedVariables false
namespace Go.Proofs.YtlcceppoloaecaaGreatDoor
open Go.RowKit Go.MapKept
set_option maxRecDepth 100000
set_option maxHeartbeats 8000000
noncomputable section
def om (a_a:List aV) (a_b:List aV):Option (List bA):=bif (decide (a_a.length<=1000))&&decide (a_b.length<=1000) then some (cO Ai a_b a_a 0) else none
theorem yg {a_a:List aV} {a_b:List aV} {r:List bA} (H:om a_a a_b=some r):Pure Tryz.prog 12 [.one (.lst (a_a.map a_)), .one (.lst (a_b.map a_))] (.val (.one (.lst (r.map jb)))):=by
 unfold om at H
 cases h:decide (a_a.length<=1000)&&decide (a_b.length<=1000) with
 | false=>rw [h] at H;cases H
 | true =>
  rw [h,Ve] at H
  cases H
  rw [Vu] at h
  exact Fu a_a a_b (VF h.1) (VF h.2)
def n_ (a_a:(List aV)) (a_b:(List aV)) (a_rel:Int):Option (Bool):=bif (decide ((24:Int)<((a_a.length:Nat):Int))) then some (true) else
 bif (decide ((24:Int)<((a_b.length:Nat):Int))) then some (true) else
 (om a_a a_b).bind fun r_5=>(qO a_a a_b).bind fun r_6=>(um r_5 r_6).bind fun r_7=>bif r_7 then (r_ a_a a_b a_rel).bind fun r_9=>(qK a_a a_b a_rel).bind fun r_10=>(um r_9 r_10).bind fun r_11=>bif r_11 then some (true) else
 some false else
 some false
theorem Bt {a_a:(List aV)} {a_b:(List aV)} {a_rel:Int} {r:Bool} (H:n_ a_a a_b a_rel=some r):Pure Tryz.prog 3 [.one (.lst (a_a.map a_)), .one (.lst (a_b.map a_)), .one (.int .i64 a_rel)] (.val (.one (.bool r))):=by
 unfold n_ at H
 refine po_ Tryz.func3 Tryz.ntmps3 ?_
 rcases aa H with ⟨q_1,H⟩|⟨q_1,H⟩
 ·have hc_2:=Aw.gy
  try simp only [Vp,Vn,Vr,Vh,fD] at hc_2
  cases H
  exact ah
 rcases aa H with ⟨q_3,H⟩|⟨q_3,H⟩
 ·have hc_4:=Aw.gy
  try simp only [Vp,Vn,Vr,Vh,fD] at hc_4
  cases H
  exact ah
 obtain ⟨r_5,c1,H⟩:=bd_ H
 replace c1:=yg c1
 obtain ⟨r_6,c2,H⟩:=bd_ H
 replace c2:=E9 c2
 obtain ⟨r_7,c3,H⟩:=bd_ H
 replace c3:=zL c3
 rcases aa H with ⟨q_8,H⟩|⟨q_8,H⟩
 ·obtain ⟨r_9,c4,H⟩:=bd_ H
  replace c4:=zq c4
  obtain ⟨r_10,c5,H⟩:=bd_ H
  replace c5:=FJ c5
  obtain ⟨r_11,c6,H⟩:=bd_ H
  replace c6:=zL c6
  rcases aa H with ⟨q_12,H⟩|⟨q_12,H⟩
  ·have hc_13:=Aw.gy
   try simp only [Vp,Vn,Vr,Vh,fD] at hc_13
   cases H
   exact ah
  cases H
  exact ah
 cases H
 exact ah
end
end Go.Proofs.YtlcceppoloaecaaGreatDoor
