/- Parts of the proof, joined. No condition. -/
import Derived.Test.YtfpbmfalamappaaGreatDoorKAA
import Derived.Test.YtfpbmfalamappaaGreatDoorKAP
import Derived.Test.YtfpbmfalamappaaGreatDoorKAJ
set_option linter.unusedSimpArgs false
set_option linter.unusedVariables false
namespace Go.Proofs.YtfpbmfalamappaaGreatDoor
open Go.RowKit Go.MapKept
set_option maxRecDepth 100000
set_option maxHeartbeats 8000000
def EM (a_s:ByteArray):Option (Val):=(sJ (⟨(2:Int),(0:Int),a_s⟩:Val)).bind fun r_1=>some r_1
theorem Q6 {a_s:ByteArray} {r:Val} (H:EM a_s=some r):Pure Tryz.prog 184 [.one (.str a_s)] (.val (.agg (cV r))):=by
 unfold EM at H
 refine po_ Tryz.func184 Tryz.ntmps184 ?_
 obtain ⟨r_1,c1,H⟩:=bd_ H
 replace c1:=Gg c1
 cases H
 exact go_
def uq (a_b:Bool):Option (Val):=bif a_b then some (⟨(3:Int),(1:Int),ByteArray.empty⟩:Val) else
 some (⟨(3:Int),(0:Int),ByteArray.empty⟩:Val)
theorem nD {a_b:Bool} {r:Val} (H:uq a_b=some r):Pure Tryz.prog 141 [.one (.bool a_b)] (.val (.agg (cV r))):=by
 unfold uq at H
 refine po_ Tryz.func141 Tryz.ntmps141 ?_
 rcases cnd_ H with ⟨q_1,H⟩|⟨q_1,H⟩
 ·cases H
  exact go_
 cases H
 exact go_
def xu (a_a:Val) (a_b:Val) (a_is:Bool):Option (Int):=bif (decide (a_a.kind=(0:Int))) then some (1:Int) else
 bif (decide (a_a.kind≠a_b.kind)) then some (1:Int) else
 bif a_is then some (2:Int) else
 some (0:Int)
theorem Eo {a_a:Val} {a_b:Val} {a_is:Bool} {r:Int} (H:xu a_a a_b a_is=some r):Pure Tryz.prog 199 [.agg (cV a_a), .agg (cV a_b), .one (.bool a_is)] (.val (.one (.int .i64 r))):=by
 unfold xu at H
 refine po_ Tryz.func199 Tryz.ntmps199 ?_
 rcases cnd_ H with ⟨q_1,H⟩|⟨q_1,H⟩
 ·cases H
  exact go_
 rcases cnd_ H with ⟨q_2,H⟩|⟨q_2,H⟩
 ·cases H
  exact go_
 rcases cnd_ H with ⟨q_3,H⟩|⟨q_3,H⟩
 ·cases H
  exact go_
 cases H
 exact go_
def QY (a_a:Val) (a_b:Val):Option (Int):=(Av a_a a_b).bind fun r_1=>(xu a_a a_b (decide (r_1=(0:Int)))).bind fun r_2=>some r_2
theorem Pz {a_a:Val} {a_b:Val} {r:Int} (H:QY a_a a_b=some r):Pure Tryz.prog 182 [.agg (cV a_a), .agg (cV a_b)] (.val (.one (.int .i64 r))):=by
 unfold QY at H
 refine po_ Tryz.func182 Tryz.ntmps182 ?_
 obtain ⟨r_1,c1,H⟩:=bd_ H
 replace c1:=vk c1
 obtain ⟨r_2,c2,H⟩:=bd_ H
 replace c2:=Eo c2
 cases H
 exact go_
def wy (a_a:Val) (a_b:Val):Option (Int):=(Av a_a a_b).bind fun r_1=>(xu a_a a_b (decide (r_1<(0:Int)))).bind fun r_2=>some r_2
theorem wY {a_a:Val} {a_b:Val} {r:Int} (H:wy a_a a_b=some r):Pure Tryz.prog 183 [.agg (cV a_a), .agg (cV a_b)] (.val (.one (.int .i64 r))):=by
 unfold wy at H
 refine po_ Tryz.func183 Tryz.ntmps183 ?_
 obtain ⟨r_1,c1,H⟩:=bd_ H
 replace c1:=vk c1
 obtain ⟨r_2,c2,H⟩:=bd_ H
 replace c2:=Eo c2
 cases H
 exact go_
def Ez (a_a:Int):Option (Int):=bif (decide (a_a=(2:Int))) then some (0:Int) else
 bif (decide (a_a=(0:Int))) then some (2:Int) else
 some (1:Int)
theorem zI {a_a:Int} {r:Int} (H:Ez a_a=some r):Pure Tryz.prog 144 [.one (.int .i64 a_a)] (.val (.one (.int .i64 r))):=by
 unfold Ez at H
 refine po_ Tryz.func144 Tryz.ntmps144 ?_
 rcases cnd_ H with ⟨q_1,H⟩|⟨q_1,H⟩
 ·cases H
  exact go_
 rcases cnd_ H with ⟨q_2,H⟩|⟨q_2,H⟩
 ·cases H
  exact go_
 cases H
 exact go_
def Gl (a_a:Int) (a_b:Int):Option (Int):=bif (decide (a_a=(0:Int))) then some (0:Int) else
 bif (decide (a_b=(0:Int))) then some (0:Int) else
 bif (decide (a_a=(2:Int))) then bif (decide (a_b=(2:Int))) then some (2:Int) else
 some (1:Int) else
 some (1:Int)
theorem Ud {a_a:Int} {a_b:Int} {r:Int} (H:Gl a_a a_b=some r):Pure Tryz.prog 180 [.one (.int .i64 a_a), .one (.int .i64 a_b)] (.val (.one (.int .i64 r))):=by
 unfold Gl at H
 refine po_ Tryz.func180 Tryz.ntmps180 ?_
 rcases cnd_ H with ⟨q_1,H⟩|⟨q_1,H⟩
 ·cases H
  exact go_
 rcases cnd_ H with ⟨q_2,H⟩|⟨q_2,H⟩
 ·cases H
  exact go_
 rcases cnd_ H with ⟨q_3,H⟩|⟨q_3,H⟩
 ·rcases cnd_ H with ⟨q_4,H⟩|⟨q_4,H⟩
  ·cases H
   exact go_
  cases H
  exact go_
 cases H
 exact go_
def NU (a_a:Int) (a_b:Int):Option (Int):=bif (decide (a_a=(2:Int))) then some (2:Int) else
 bif (decide (a_b=(2:Int))) then some (2:Int) else
 bif (decide (a_a=(0:Int))) then bif (decide (a_b=(0:Int))) then some (0:Int) else
 some (1:Int) else
 some (1:Int)
theorem WI {a_a:Int} {a_b:Int} {r:Int} (H:NU a_a a_b=some r):Pure Tryz.prog 181 [.one (.int .i64 a_a), .one (.int .i64 a_b)] (.val (.one (.int .i64 r))):=by
 unfold NU at H
 refine po_ Tryz.func181 Tryz.ntmps181 ?_
 rcases cnd_ H with ⟨q_1,H⟩|⟨q_1,H⟩
 ·cases H
  exact go_
 rcases cnd_ H with ⟨q_2,H⟩|⟨q_2,H⟩
 ·cases H
  exact go_
 rcases cnd_ H with ⟨q_3,H⟩|⟨q_3,H⟩
 ·rcases cnd_ H with ⟨q_4,H⟩|⟨q_4,H⟩
  ·cases H
   exact go_
  cases H
  exact go_
 cases H
 exact go_
def iq (a_v:Val):Option (Int):=(uq true).bind fun r_1=>bif (dS [.c (.int .i64 a_v.kind), .c (.int .i64 a_v.int), .c (.str a_v.text)] [.c (.int .i64 r_1.kind), .c (.int .i64 r_1.int), .c (.str r_1.text)]) then some (2:Int) else
 (uq false).bind fun r_3=>bif (dS [.c (.int .i64 a_v.kind), .c (.int .i64 a_v.int), .c (.str a_v.text)] [.c (.int .i64 r_3.kind), .c (.int .i64 r_3.int), .c (.str r_3.text)]) then some (0:Int) else
 some (1:Int)
theorem lw {a_v:Val} {r:Int} (H:iq a_v=some r):Pure Tryz.prog 109 [.agg (cV a_v)] (.val (.one (.int .i64 r))):=by
 unfold iq at H
 refine po_ Tryz.func109 Tryz.ntmps109 ?_
 obtain ⟨r_1,c1,H⟩:=bd_ H
 replace c1:=nD c1
 rcases cnd_ H with ⟨q_2,H⟩|⟨q_2,H⟩
 ·cases H
  exact go_
 obtain ⟨r_3,c2,H⟩:=bd_ H
 replace c2:=nD c2
 rcases cnd_ H with ⟨q_4,H⟩|⟨q_4,H⟩
 ·cases H
  exact go_
 cases H
 exact go_
def DC (a_t:Int):Option (Val):=bif (decide (a_t=(2:Int))) then (uq (decide (a_t=(2:Int)))).bind fun r_2=>some r_2 else
 bif (decide (a_t=(0:Int))) then (uq (decide (a_t=(2:Int)))).bind fun r_4=>some r_4 else
 (dJ ).bind fun r_5=>some r_5
theorem pQ {a_t:Int} {r:Val} (H:DC a_t=some r):Pure Tryz.prog 143 [.one (.int .i64 a_t)] (.val (.agg (cV r))):=by
 unfold DC at H
 refine po_ Tryz.func143 Tryz.ntmps143 ?_
 rcases cnd_ H with ⟨q_1,H⟩|⟨q_1,H⟩
 ·obtain ⟨r_2,c1,H⟩:=bd_ H
  replace c1:=nD c1
  cases H
  exact go_
 rcases cnd_ H with ⟨q_3,H⟩|⟨q_3,H⟩
 ·obtain ⟨r_4,c2,H⟩:=bd_ H
  replace c2:=nD c2
  cases H
  exact go_
 obtain ⟨r_5,c3,H⟩:=bd_ H
 replace c3:=bT c3
 cases H
 exact go_
end Go.Proofs.YtfpbmfalamappaaGreatDoor
