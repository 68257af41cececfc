/- Parts of the proof, joined. No condition. -/
import Derived.Test.YtlcceppoloaecaaGreatDoorKAA
import Derived.Test.YtlcceppoloaecaaGreatDoorKCK
import Derived.Test.YtlcceppoloaecaaGreatDoorKCE
import Derived.Test.YtlcceppoloaecaaGreatDoorKCF
set_option linter.unusedSimpArgs false
set_option linter.unusedVariables false
namespace Go.Proofs.YtlcceppoloaecaaGreatDoor
open Go.RowKit Go.MapKept
set_option maxRecDepth 100000
set_option maxHeartbeats 8000000
noncomputable section
def De (a_a:bH) (a_b:bH) (a_e:Ex):Option (Bool):=(nO a_a a_b a_e).bind fun r_1=>bif (!r_1) then some (true) else
 (yn a_a a_b a_e).bind fun r_4=>(F4 a_a a_b a_e).bind fun r_5=>(vk r_4 r_5).bind fun r_6=>bif r_6 then (Fb a_a a_b a_e).bind fun r_8=>(F8 a_a a_b a_e).bind fun r_9=>(vk r_8 r_9).bind fun r_10=>bif r_10 then some (true) else
 some false else
 some false
theorem UT {a_a:bH} {a_b:bH} {a_e:Ex} {r:Bool} (H:De a_a a_b a_e=some r):Pure Tryz.prog 4 [.agg (bD a_a), .agg (bD a_b), .agg (tE a_e)] (.val (.one (.bool r))):=by
 unfold De at H
 rw [aL a_e]
 refine po_ Tryz.func4 Tryz.ntmps4 ?_
 obtain ⟨r_1,c1,H⟩:=bd_ H
 replace c1:=pM c1
 try simp only [aqb,ap',aqd,ap5,aL] at c1
 rcases af H with ⟨q_2,H⟩|⟨q_2,H⟩
 ·have hc_3:=Aw.dG
  try simp only [aqb,ap',aqd,ap5,aL] at hc_3
  cases H
  exact aK
 obtain ⟨r_4,c2,H⟩:=bd_ H
 replace c2:=wE c2
 try simp only [aqb,ap',aqd,ap5,aL] at c2
 obtain ⟨r_5,c3,H⟩:=bd_ H
 replace c3:=Zk c3
 try simp only [aqb,ap',aqd,ap5,aL] at c3
 obtain ⟨r_6,c4,H⟩:=bd_ H
 replace c4:=xk c4
 rcases af H with ⟨q_7,H⟩|⟨q_7,H⟩
 ·obtain ⟨r_8,c5,H⟩:=bd_ H
  replace c5:=JJ c5
  try simp only [aqb,ap',aqd,ap5,aL] at c5
  obtain ⟨r_9,c6,H⟩:=bd_ H
  replace c6:=abB c6
  try simp only [aqb,ap',aqd,ap5,aL] at c6
  obtain ⟨r_10,c7,H⟩:=bd_ H
  replace c7:=xk c7
  rcases af H with ⟨q_11,H⟩|⟨q_11,H⟩
  ·have hc_12:=Aw.dG
   try simp only [aqb,ap',aqd,ap5,aL] at hc_12
   cases H
   exact aK
  cases H
  exact aK
 cases H
 exact aK
end
end Go.Proofs.YtlcceppoloaecaaGreatDoor
