/- Parts of the proof, joined. No condition. -/
import Derived.Test.YtngehibfdjdejaaGreatDoorKAP
import Derived.Test.YtngehibfdjdejaaGreatDoorKAJ
set_option linter.unusedSimpArgs false
set_option linter.unusedVariables false
namespace Go.Proofs.YtngehibfdjdejaaGreatDoor
open Go.RowKit Go.MapKept
set_option maxRecDepth 100000
set_option maxHeartbeats 8000000
def gFirst (a_l:(List Vio)):Option (Int):=bif (decide (((a_l.length:Nat):Int)=(0:Int))) then some (0:Int) else
 (getI a_l (0:Int)).bind fun x_2=>bif (decide (x_2.kind=(1:Int))) then some (12:Int) else
 bif (decide (x_2.kind=(2:Int))) then some (16:Int) else
 bif (decide (x_2.kind=(3:Int))) then some (17:Int) else
 bif (decide (x_2.kind=(4:Int))) then some (18:Int) else
 some (8:Int)
theorem gFirst_ok {a_l:(List Vio)} {r:Int} (H:gFirst a_l=some r):Pure Tryz.prog 4 [.one (.lst (a_l.map cVio))] (.val (.one (.int .i64 r))):=by
 unfold gFirst at H
 refine po_ Tryz.func4 Tryz.ntmps4 ?_
 rcases cnd_ H with ⟨q_1,H⟩|⟨q_1,H⟩
 ·cases H
  exact go_
 obtain ⟨x_2,i1z,i1,i1x,H⟩:=idx_ (f:=cVio) H
 rcases cnd_ H with ⟨q_3,H⟩|⟨q_3,H⟩
 ·cases H
  exact go_
 rcases cnd_ H with ⟨q_4,H⟩|⟨q_4,H⟩
 ·cases H
  exact go_
 rcases cnd_ H with ⟨q_5,H⟩|⟨q_5,H⟩
 ·cases H
  exact go_
 rcases cnd_ H with ⟨q_6,H⟩|⟨q_6,H⟩
 ·cases H
  exact go_
 cases H
 exact go_
def gFirstR (a_l:(List Vio)):Option (Int):=bif (decide (((a_l.length:Nat):Int)=(0:Int))) then some (0:Int) else
 (getI a_l (0:Int)).bind fun x_2=>bif (decide (x_2.kind=(1:Int))) then some (12:Int) else
 bif (decide (x_2.kind=(2:Int))) then some (16:Int) else
 bif (decide (x_2.kind=(3:Int))) then some (17:Int) else
 bif (decide (x_2.kind=(4:Int))) then some (18:Int) else
 some (8:Int)
theorem gFirstR_ok {a_l:(List Vio)} {r:Int} (H:gFirstR a_l=some r):Pure Tryz.prog 5 [.one (.lst (a_l.map cVio))] (.val (.one (.int .i64 r))):=by
 unfold gFirstR at H
 refine po_ Tryz.func5 Tryz.ntmps5 ?_
 rcases cnd_ H with ⟨q_1,H⟩|⟨q_1,H⟩
 ·cases H
  exact go_
 obtain ⟨x_2,i1z,i1,i1x,H⟩:=idx_ (f:=cVio) H
 rcases cnd_ H with ⟨q_3,H⟩|⟨q_3,H⟩
 ·cases H
  exact go_
 rcases cnd_ H with ⟨q_4,H⟩|⟨q_4,H⟩
 ·cases H
  exact go_
 rcases cnd_ H with ⟨q_5,H⟩|⟨q_5,H⟩
 ·cases H
  exact go_
 rcases cnd_ H with ⟨q_6,H⟩|⟨q_6,H⟩
 ·cases H
  exact go_
 cases H
 exact go_
def gLawFirst (a_l:(List Vio)):Option (Bool):=(gFirst a_l).bind fun r_1=>(gFirstR a_l).bind fun r_2=>bif (decide (r_1=r_2)) then some (true) else
 some false
theorem gLawFirst_ok {a_l:(List Vio)} {r:Bool} (H:gLawFirst a_l=some r):Pure Tryz.prog 3 [.one (.lst (a_l.map cVio))] (.val (.one (.bool r))):=by
 unfold gLawFirst at H
 refine po_ Tryz.func3 Tryz.ntmps3 ?_
 obtain ⟨r_1,c1,H⟩:=bd_ H
 replace c1:=gFirst_ok c1
 obtain ⟨r_2,c2,H⟩:=bd_ H
 replace c2:=gFirstR_ok c2
 rcases cnd_ H with ⟨q_3,H⟩|⟨q_3,H⟩
 ·have hc_4:=awake_pure
  try simp only [List.map_append,List.map_cons,List.map_nil,List.nil_append,tE_eq] at hc_4
  cases H
  exact go_
 cases H
 exact go_
theorem gFirst_some (a:List Vio) : ∃ r,gFirst a=some r:=by
 unfold gFirst
 cases a with
 | nil=>exact ⟨0,rfl⟩
 | cons v l =>
  have h:getI (v::l) (0:Int)=some v:=by rfl
  rw [h]
  have h0:decide ((((v::l).length:Nat):Int)=0)=false:=by simp;omega
  rw [h0]
  simp only [Option.bind_some,cond_false]
  cases decide (v.kind=1)<;>cases decide (v.kind=2)<;>cases decide (v.kind=3)<;>cases decide (v.kind=4)<;>exact ⟨_,rfl⟩
theorem gLawFirst_true (a:List Vio):gLawFirst a=some true:=by
 obtain ⟨r,h⟩:=gFirst_some a
 have h2:gFirstR a=some r:=h
 unfold gLawFirst
 rw [h,h2]
 simp
theorem constraintFirst_pure {x:List Vio} (q:LOk 72 okVio x):Pure Tryz.prog 3 [.one (.lst (x.map cVio))] (.val (.one (.bool true))):=gLawFirst_ok (gLawFirst_true x)
end Go.Proofs.YtngehibfdjdejaaGreatDoor
