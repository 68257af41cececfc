/- Parts of the proof, joined. No condition. -/
import Derived.Test.YtlcceppoloaecaaGreatDoorKAA
import Derived.Test.YtlcceppoloaecaaGreatDoorKAJ
set_option linter.unusedSimpArgs false
set_option linter.unusedVariables false
namespace Go.Proofs.YtlcceppoloaecaaGreatDoor
open Go.RowKit Go.MapKept
set_option maxRecDepth 100000
set_option maxHeartbeats 8000000
def pI:Option (Val):=some (⟨(0:Int),(0:Int),ByteArray.empty⟩:Val)
theorem gX {r:Val} (H:pI=some r):Pure Tryz.prog 111 [] (.val (.agg (cV r))):=by
 unfold pI at H
 refine po_ Tryz.func111 Tryz.ntmps111 ?_
 cases H
 exact aK
def Ah (a_s:ByteArray):(Int)->Option (Step (Int) (Bool)):=fun s=>match s with
 | v_1=>bif (decide (v_1<((a_s.size:Nat):Int))) then (adm a_s v_1).bind fun b_3=>bif (decide (((b_3.toNat:Nat):Int)<(32:Int))) then some (.ret false) else
 bif (decide ((126:Int)<((b_3.toNat:Nat):Int))) then some (.ret false) else
 some (.next (IntKind.i64.wrap (v_1+(1:Int)))) else
 some (.exit v_1)
def gm:Sum (Int) (Bool)->Option ((Bool))
 | .inl v_1=>some true
 | .inr q=>some q
def uY (a_s:ByteArray):Option (Bool):=(az (Ah a_s) fuel (0:Int)).bind (gm)
theorem Nq {a_s:ByteArray} {r:Bool} (H:uY a_s=some r):Pure Tryz.prog 227 [.one (.str a_s)] (.val (.one (.bool r))):=by
 unfold uY at H
 refine po_ Tryz.func227 Tryz.ntmps227 ?_
 repeat' (first|refine gs5_ ?_|refine b_ rfl rfl rfl rfl rfl rfl rfl ?_)
 refine alM_ (fun s:Int=>match s with|v_1=>[(0, .one (.c (.str a_s))),(5, .one (.c (.int .i64 ((a_s.size:Nat):Int)))),(6, .one (.c (.int .i64 v_1)))]) (fun s=>match s with|v_1=>[]) H (fun _=>aqj _)
  (fm_ bY [] rfl bA trivial) ?_
 rintro v_1 st1 hb1 hk1
 unfold Ah at hb1
 dsimp only at hb1 ⊢
 rcases af hb1 with ⟨q_2,hb1⟩|⟨q_2,hb1⟩
 ·obtain ⟨b_3,i1,hb1⟩:=bd_ hb1
  obtain ⟨i1z,i1⟩:=Sa i1
  rcases af hb1 with ⟨q_4,hb1⟩|⟨q_4,hb1⟩
  ·cases hb1
   have hx1:gm (.inr false)=some _:=hk1
   unfold gm at hx1
   dsimp only at hx1
   cases hx1
   repeat' (first|refine gs5_ ?_|refine b_ rfl rfl rfl rfl rfl rfl rfl ?_)
   refine bL (bR rfl ?_ ?_)
   ·repeat' (first|exact trivial|rfl|exact ap_ rfl|omega|apply And.intro)
   ·first|rfl|(simp only [aqb,ap',aqd,ap5]<;>rfl)
  rcases af hb1 with ⟨q_5,hb1⟩|⟨q_5,hb1⟩
  ·cases hb1
   have hx1:gm (.inr false)=some _:=hk1
   unfold gm at hx1
   dsimp only at hx1
   cases hx1
   repeat' (first|refine gs5_ ?_|refine b_ rfl rfl rfl rfl rfl rfl rfl ?_)
   refine bL (bR rfl ?_ ?_)
   ·repeat' (first|exact trivial|rfl|exact ap_ rfl|omega|apply And.intro)
   ·first|rfl|(simp only [aqb,ap',aqd,ap5]<;>rfl)
  cases hb1
  repeat' (first|refine gs5_ ?_|refine b_ rfl rfl rfl rfl rfl rfl rfl ?_)
  exact ⟨_,rfl,fm_ bY [] rfl bA trivial⟩
 cases hb1
 have hx1:gm (.inl v_1)=some _:=hk1
 unfold gm at hx1
 dsimp only at hx1
 cases hx1
 repeat' (first|refine gs5_ ?_|refine b_ rfl rfl rfl rfl rfl rfl rfl ?_)
 refine bL (bR rfl ?_ ?_)
 ·repeat' (first|exact trivial|rfl|exact ap_ rfl|omega|apply And.intro)
 ·first|rfl|(simp only [aqb,ap',aqd,ap5]<;>rfl)
def xZ (a_v:Val):Option (Bool):=bif (decide (a_v.kind=(0:Int))) then bif (decide (a_v.int=(0:Int))) then some (a_v.text.toList==(⟨#[]⟩:ByteArray).toList) else
 some false else
 bif (decide (a_v.kind=(1:Int))) then bif (a_v.text.toList==(⟨#[]⟩:ByteArray).toList) then bif (decide ((-1125899906842624:Int)<=a_v.int)) then some (decide (a_v.int<=(1125899906842624:Int))) else
 some false else
 some false else
 bif (decide (a_v.kind=(2:Int))) then bif (decide (a_v.int=(0:Int))) then bif (decide (((a_v.text.size:Nat):Int)<=(200:Int))) then (uY a_v.text).bind fun r_9=>some r_9 else
 some false else
 some false else
 bif (decide (a_v.kind=(3:Int))) then bif (a_v.text.toList==(⟨#[]⟩:ByteArray).toList) then bif (decide (a_v.int=(0:Int))) then some true else
 some (decide (a_v.int=(1:Int))) else
 some false else
 some false
theorem Ej {a_v:Val} {r:Bool} (H:xZ a_v=some r):Pure Tryz.prog 178 [.agg (cV a_v)] (.val (.one (.bool r))):=by
 unfold xZ at H
 refine po_ Tryz.func178 Tryz.ntmps178 ?_
 rcases af H with ⟨q_1,H⟩|⟨q_1,H⟩
 ·rcases af H with ⟨q_2,H⟩|⟨q_2,H⟩
  ·cases H
   exact aK
  cases H
  exact aK
 rcases af H with ⟨q_3,H⟩|⟨q_3,H⟩
 ·rcases af H with ⟨q_4,H⟩|⟨q_4,H⟩
  ·rcases af H with ⟨q_5,H⟩|⟨q_5,H⟩
   ·cases H
    exact aK
   cases H
   exact aK
  cases H
  exact aK
 rcases af H with ⟨q_6,H⟩|⟨q_6,H⟩
 ·rcases af H with ⟨q_7,H⟩|⟨q_7,H⟩
  ·rcases af H with ⟨q_8,H⟩|⟨q_8,H⟩
   ·obtain ⟨r_9,c1,H⟩:=bd_ H
    replace c1:=Nq c1
    cases H
    exact aK
   cases H
   exact aK
  cases H
  exact aK
 rcases af H with ⟨q_10,H⟩|⟨q_10,H⟩
 ·rcases af H with ⟨q_11,H⟩|⟨q_11,H⟩
  ·rcases af H with ⟨q_12,H⟩|⟨q_12,H⟩
   ·cases H
    exact aK
   cases H
   exact aK
  cases H
  exact aK
 cases H
 exact aK
def Dh (a_v:Val):Option (Val):=(xZ a_v).bind fun r_1=>bif (!r_1) then (pI ).bind fun r_3=>some r_3 else
 some a_v
theorem MF {a_v:Val} {r:Val} (H:Dh a_v=some r):Pure Tryz.prog 230 [.agg (cV a_v)] (.val (.agg (cV r))):=by
 unfold Dh at H
 refine po_ Tryz.func230 Tryz.ntmps230 ?_
 obtain ⟨r_1,c1,H⟩:=bd_ H
 replace c1:=Ej c1
 rcases af H with ⟨q_2,H⟩|⟨q_2,H⟩
 ·obtain ⟨r_3,c2,H⟩:=bd_ H
  replace c2:=gX c2
  cases H
  exact aK
 cases H
 exact aK
def uA (a_n:Int):Option (Val):=(Dh (⟨(1:Int),a_n,ByteArray.empty⟩:Val)).bind fun r_1=>some r_1
theorem pK {a_n:Int} {r:Val} (H:uA a_n=some r):Pure Tryz.prog 184 [.one (.int .i64 a_n)] (.val (.agg (cV r))):=by
 unfold uA at H
 refine po_ Tryz.func184 Tryz.ntmps184 ?_
 obtain ⟨r_1,c1,H⟩:=bd_ H
 replace c1:=MF c1
 cases H
 exact aK
def JC (a_s:ByteArray):Option (Val):=(Dh (⟨(2:Int),(0:Int),a_s⟩:Val)).bind fun r_1=>some r_1
theorem afo {a_s:ByteArray} {r:Val} (H:JC a_s=some r):Pure Tryz.prog 185 [.one (.str a_s)] (.val (.agg (cV r))):=by
 unfold JC at H
 refine po_ Tryz.func185 Tryz.ntmps185 ?_
 obtain ⟨r_1,c1,H⟩:=bd_ H
 replace c1:=MF c1
 cases H
 exact aK
def Ba (a_b:Bool):Option (Val):=bif a_b then some (⟨(3:Int),(1:Int),ByteArray.empty⟩:Val) else
 some (⟨(3:Int),(0:Int),ByteArray.empty⟩:Val)
theorem xy {a_b:Bool} {r:Val} (H:Ba a_b=some r):Pure Tryz.prog 114 [.one (.bool a_b)] (.val (.agg (cV r))):=by
 unfold Ba at H
 refine po_ Tryz.func114 Tryz.ntmps114 ?_
 rcases af H with ⟨q_1,H⟩|⟨q_1,H⟩
 ·cases H
  exact aK
 cases H
 exact aK
end Go.Proofs.YtlcceppoloaecaaGreatDoor
