/- Parts of the proof, joined. No condition. -/
import Derived.Test.YtnbnpnmkgemdeaaGreatDoorKAA
import Derived.Test.YtnbnpnmkgemdeaaGreatDoorKBC
import Derived.Test.YtnbnpnmkgemdeaaGreatDoorKBA
import Derived.Test.YtnbnpnmkgemdeaaGreatDoorKBB
import Derived.Test.YtnbnpnmkgemdeaaGreatDoorKAP
import Derived.Test.YtnbnpnmkgemdeaaGreatDoorKAZ
import Derived.Test.YtnbnpnmkgemdeaaGreatDoorKAR
import Derived.Test.YtnbnpnmkgemdeaaGreatDoorKAW
import Derived.Test.YtnbnpnmkgemdeaaGreatDoorKAX
import Derived.Test.YtnbnpnmkgemdeaaGreatDoorKAJ
import Derived.Test.YtnbnpnmkgemdeaaGreatDoorKAI
import Derived.ProofKit
import Derived.OpenShut
import Derived.ChangeOld
import Derived.Deep.Slices
set_option linter.unusedSimpArgs false
set_option linter.unusedVariables false
namespace Go.Proofs.YtnbnpnmkgemdeaaGreatDoor
open Go.RowKit Go.MapKept
set_option maxRecDepth 100000
set_option maxHeartbeats 200000000
theorem D5 {a_a:Ip} {a_b:Ip} {a_rel:Int} {r:Bool} (H:nX a_a a_b a_rel=some r):Pure Tryz.prog 9 [.agg (Aq a_a), .agg (Aq a_b), .one (.int .i64 a_rel)] (.val (.one (.bool r))):=by
 unfold nX at H
 refine po_ Tryz.func9 Tryz.ntmps9 ?_
 rcases aa H with ⟨q_1,H⟩|⟨q_1,H⟩
 ·have hc_2:=eD
  try simp only [Zb,Y9,Zd,Y3,aF,aQ] at hc_2
  cases H
  exact aj
 rcases aa H with ⟨q_3,H⟩|⟨q_3,H⟩
 ·have hc_4:=eD
  try simp only [Zb,Y9,Zd,Y3,aF,aQ] at hc_4
  cases H
  exact aj
 rcases aa H with ⟨q_5,H⟩|⟨q_5,H⟩
 ·have hc_6:=eD
  try simp only [Zb,Y9,Zd,Y3,aF,aQ] at hc_6
  cases H
  exact aj
 rcases aa H with ⟨q_7,H⟩|⟨q_7,H⟩
 ·have hc_8:=eD
  try simp only [Zb,Y9,Zd,Y3,aF,aQ] at hc_8
  cases H
  exact aj
 rcases aa H with ⟨q_9,H⟩|⟨q_9,H⟩
 ·have hc_10:=eD
  try simp only [Zb,Y9,Zd,Y3,aF,aQ] at hc_10
  cases H
  exact aj
 obtain ⟨r_11,c1,H⟩:=bd_ H
 replace c1:=MU c1
 rcases aa H with ⟨q_12,H⟩|⟨q_12,H⟩
 ·have hc_13:=eD
  try simp only [Zb,Y9,Zd,Y3,aF,aQ] at hc_13
  cases H
  exact aj
 obtain ⟨r_14,c2,H⟩:=bd_ H
 replace c2:=MU c2
 rcases aa H with ⟨q_15,H⟩|⟨q_15,H⟩
 ·have hc_16:=eD
  try simp only [Zb,Y9,Zd,Y3,aF,aQ] at hc_16
  cases H
  exact aj
 obtain ⟨r_17,c3,H⟩:=bd_ H
 replace c3:=BA c3
 rcases aa H with ⟨q_18,H⟩|⟨q_18,H⟩
 ·have hc_19:=eD
  try simp only [Zb,Y9,Zd,Y3,aF,aQ] at hc_19
  cases H
  exact aj
 obtain ⟨r_20,c4,H⟩:=bd_ H
 replace c4:=BA c4
 rcases aa H with ⟨q_21,H⟩|⟨q_21,H⟩
 ·have hc_22:=eD
  try simp only [Zb,Y9,Zd,Y3,aF,aQ] at hc_22
  cases H
  exact aj
 have hc_23:=H6 a_rel (IntKind.i64.wrap (((a_a.kinds.length:Nat):Int)+(0:Int))) (IntKind.i64.wrap ((IntKind.i64.wrap ((IntKind.i64.wrap (((a_a.kinds.length:Nat):Int)+(5:Int)))+((a_b.kinds.length:Nat):Int)))+(0:Int)))
 try simp only [Zb,Y9,Zd,Y3,aF,aQ] at hc_23
 obtain ⟨r_24,c5,H⟩:=bd_ H
 replace c5:=Qs c5
 try simp only [Zb,Y9,Zd,Y3,aF,aQ] at c5
 rcases aa H with ⟨q_25,H⟩|⟨q_25,H⟩
 ·obtain ⟨r_26,c6,H⟩:=bd_ H
  replace c6:=Cv c6
  obtain ⟨r_27,c7,H⟩:=bd_ H
  replace c7:=Cv c7
  obtain ⟨r_28,c8,H⟩:=bd_ H
  replace c8:=Om c8
  rcases aa H with ⟨q_29,H⟩|⟨q_29,H⟩
  ·have hc_30:=eD
   try simp only [Zb,Y9,Zd,Y3,aF,aQ] at hc_30
   cases H
   exact aj
  cases H
  exact aj
 cases H
 exact aj
end Go.Proofs.YtnbnpnmkgemdeaaGreatDoor
