/- Parts of the proof, joined. No condition. -/
import Derived.Test.YtcehmafobkhdbaaGreatDoorKBH
import Derived.ProofKit
import Derived.OpenShut
import Derived.ChangeOld
import Derived.Deep.Slices
set_option linter.unusedSimpArgs false
set_option linter.unusedVariables false
namespace Go.Proofs.YtcehmafobkhdbaaGreatDoor
open Go.RowKit Go.MapKept
set_option maxRecDepth 100000
set_option maxHeartbeats 8000000
def yK (a_op:Int):Option (Int × Int):=bif (decide (a_op=(1:Int))) then some ((0:Int),(0:Int)) else
 bif (decide (a_op=(2:Int))) then some ((0:Int),(0:Int)) else
 bif (decide (a_op=(4:Int))) then some ((1:Int),(1:Int)) else
 bif (decide (a_op=(18:Int))) then some ((1:Int),(1:Int)) else
 bif (decide (a_op=(20:Int))) then some ((1:Int),(1:Int)) else
 bif (decide (a_op=(21:Int))) then some ((1:Int),(1:Int)) else
 bif (decide (a_op=(5:Int))) then some ((2:Int),(1099511627776:Int)) else
 bif (decide (a_op=(6:Int))) then some ((2:Int),(1099511627776:Int)) else
 bif (decide (a_op=(7:Int))) then some ((2:Int),(2:Int)) else
 bif (decide (a_op=(8:Int))) then some ((2:Int),(2:Int)) else
 bif (decide (a_op=(9:Int))) then some ((2:Int),(2:Int)) else
 bif (decide (a_op=(10:Int))) then some ((2:Int),(2:Int)) else
 bif (decide (a_op=(11:Int))) then some ((2:Int),(2:Int)) else
 bif (decide (a_op=(12:Int))) then some ((2:Int),(2:Int)) else
 bif (decide (a_op=(13:Int))) then some ((2:Int),(2:Int)) else
 bif (decide (a_op=(14:Int))) then some ((2:Int),(2:Int)) else
 bif (decide (a_op=(15:Int))) then some ((2:Int),(2:Int)) else
 bif (decide (a_op=(16:Int))) then some ((2:Int),(2:Int)) else
 bif (decide (a_op=(17:Int))) then some ((2:Int),(2:Int)) else
 bif (decide (a_op=(19:Int))) then some ((2:Int),(2:Int)) else
 bif (decide (a_op=(22:Int))) then some ((3:Int),(3:Int)) else
 bif (decide (a_op=(23:Int))) then some ((1:Int),(1099511627776:Int)) else
 bif (decide (a_op=(24:Int))) then some ((4:Int),(4:Int)) else
 some ((-1:Int),(0:Int))
theorem Nz {a_op:Int} {r:Int × Int} (H:yK a_op=some r):Pure Tryz.prog 110 [.one (.int .i64 a_op)] (.tup [.one (.int .i64 r.1), .one (.int .i64 r.2)]):=by
 unfold yK at H
 refine po_ Tryz.func110 Tryz.ntmps110 ?_
 rcases af H with ⟨q_1,H⟩|⟨q_1,H⟩
 ·cases H
  exact aD
 rcases af H with ⟨q_2,H⟩|⟨q_2,H⟩
 ·cases H
  exact aD
 refine bF ?_
 rcases af H with ⟨q_3,H⟩|⟨q_3,H⟩
 ·cases H
  exact aD
 rcases af H with ⟨q_4,H⟩|⟨q_4,H⟩
 ·cases H
  exact aD
 rcases af H with ⟨q_5,H⟩|⟨q_5,H⟩
 ·cases H
  exact aD
 refine bF ?_
 rcases af H with ⟨q_6,H⟩|⟨q_6,H⟩
 ·cases H
  exact aD
 rcases af H with ⟨q_7,H⟩|⟨q_7,H⟩
 ·cases H
  exact aD
 rcases af H with ⟨q_8,H⟩|⟨q_8,H⟩
 ·cases H
  exact aD
 refine bF ?_
 rcases af H with ⟨q_9,H⟩|⟨q_9,H⟩
 ·cases H
  exact aD
 rcases af H with ⟨q_10,H⟩|⟨q_10,H⟩
 ·cases H
  exact aD
 rcases af H with ⟨q_11,H⟩|⟨q_11,H⟩
 ·cases H
  exact aD
 refine bF ?_
 rcases af H with ⟨q_12,H⟩|⟨q_12,H⟩
 ·cases H
  exact aD
 rcases af H with ⟨q_13,H⟩|⟨q_13,H⟩
 ·cases H
  exact aD
 rcases af H with ⟨q_14,H⟩|⟨q_14,H⟩
 ·cases H
  exact aD
 refine bF ?_
 rcases af H with ⟨q_15,H⟩|⟨q_15,H⟩
 ·cases H
  exact aD
 rcases af H with ⟨q_16,H⟩|⟨q_16,H⟩
 ·cases H
  exact aD
 rcases af H with ⟨q_17,H⟩|⟨q_17,H⟩
 ·cases H
  exact aD
 refine bF ?_
 rcases af H with ⟨q_18,H⟩|⟨q_18,H⟩
 ·cases H
  exact aD
 rcases af H with ⟨q_19,H⟩|⟨q_19,H⟩
 ·cases H
  exact aD
 rcases af H with ⟨q_20,H⟩|⟨q_20,H⟩
 ·cases H
  exact aD
 refine bF ?_
 rcases af H with ⟨q_21,H⟩|⟨q_21,H⟩
 ·cases H
  exact aD
 rcases af H with ⟨q_22,H⟩|⟨q_22,H⟩
 ·cases H
  exact aD
 rcases af H with ⟨q_23,H⟩|⟨q_23,H⟩
 ·cases H
  exact aD
 cases H
 exact aD
def mG (a_e:Ex):Option (Bool):=(yK a_e.op).bind fun r_1=>bif (decide (r_1.1<(0:Int))) then some false else
 bif (decide (((a_e.args.length:Nat):Int)<r_1.1)) then some false else
 bif (decide (r_1.2<((a_e.args.length:Nat):Int))) then some false else
 bif (!(a_e.nm.toList==(⟨#[]⟩:ByteArray).toList)) then some false else
 bif (decide (a_e.op=(1:Int))) then bif (decide (a_e.int=(0:Int))) then (eP a_e.v).bind fun r_8=>some r_8 else
 some false else
 bif (decide (a_e.op=(2:Int))) then (fQ ).bind fun r_10=>some (dL [.c (.int .i64 a_e.v.kind), .c (.int .i64 a_e.v.int), .c (.str a_e.v.text)] [.c (.int .i64 r_10.kind), .c (.int .i64 r_10.int), .c (.str r_10.text)]) else
 bif (decide (a_e.op=(24:Int))) then (fQ ).bind fun r_12=>bif (dL [.c (.int .i64 a_e.v.kind), .c (.int .i64 a_e.v.int), .c (.str a_e.v.text)] [.c (.int .i64 r_12.kind), .c (.int .i64 r_12.int), .c (.str r_12.text)]) then bif (decide ((0:Int)<=a_e.int)) then some (decide (a_e.int<(13:Int))) else
 some false else
 some false else
 bif (decide (a_e.int=(0:Int))) then (fQ ).bind fun r_16=>some (dL [.c (.int .i64 a_e.v.kind), .c (.int .i64 a_e.v.int), .c (.str a_e.v.text)] [.c (.int .i64 r_16.kind), .c (.int .i64 r_16.int), .c (.str r_16.text)]) else
 some false
theorem Gp {a_e:Ex} {r:Bool} (H:mG a_e=some r):Pure Tryz.prog 89 [.agg (tE a_e)] (.val (.one (.bool r))):=by
 unfold mG at H
 rw [aC a_e]
 refine po_ Tryz.func89 Tryz.ntmps89 ?_
 obtain ⟨r_1,c1,H⟩:=bd_ H
 replace c1:=Nz c1
 rcases af H with ⟨q_2,H⟩|⟨q_2,H⟩
 ·cases H
  exact aD
 rcases af H with ⟨q_3,H⟩|⟨q_3,H⟩
 ·cases H
  exact aD
 refine bF ?_
 rcases af H with ⟨q_4,H⟩|⟨q_4,H⟩
 ·cases H
  exact aD
 rcases af H with ⟨q_5,H⟩|⟨q_5,H⟩
 ·cases H
  exact aD
 rcases af H with ⟨q_6,H⟩|⟨q_6,H⟩
 ·refine bF ?_
  rcases af H with ⟨q_7,H⟩|⟨q_7,H⟩
  ·obtain ⟨r_8,c2,H⟩:=bd_ H
   replace c2:=qF c2
   cases H
   exact aD
  cases H
  exact aD
 refine bF ?_
 rcases af H with ⟨q_9,H⟩|⟨q_9,H⟩
 ·obtain ⟨r_10,c3,H⟩:=bd_ H
  replace c3:=dm c3
  cases H
  exact aD
 rcases af H with ⟨q_11,H⟩|⟨q_11,H⟩
 ·obtain ⟨r_12,c4,H⟩:=bd_ H
  replace c4:=dm c4
  rcases af H with ⟨q_13,H⟩|⟨q_13,H⟩
  ·refine bF ?_
   rcases af H with ⟨q_14,H⟩|⟨q_14,H⟩
   ·cases H
    exact aD
   cases H
   exact aD
  cases H
  exact aD
 rcases af H with ⟨q_15,H⟩|⟨q_15,H⟩
 ·obtain ⟨r_16,c5,H⟩:=bd_ H
  replace c5:=dm c5
  cases H
  exact aD
 cases H
 exact aD
set_option maxHeartbeats 8000000
def jl (a_op:Int) (a_a:Val) (a_b:Val):Option (Int):=bif (decide (a_op=(7:Int))) then (X9 a_a a_b).bind fun r_2=>some r_2 else
 bif (decide (a_op=(8:Int))) then (X9 a_a a_b).bind fun r_4=>(Ku r_4).bind fun r_5=>some r_5 else
 bif (decide (a_op=(9:Int))) then (zq a_a a_b).bind fun r_7=>some r_7 else
 bif (decide (a_op=(11:Int))) then (zq a_b a_a).bind fun r_9=>some r_9 else
 bif (decide (a_op=(10:Int))) then (zq a_b a_a).bind fun r_11=>(Ku r_11).bind fun r_12=>some r_12 else
 (zq a_a a_b).bind fun r_13=>(Ku r_13).bind fun r_14=>some r_14
theorem kE {a_op:Int} {a_a:Val} {a_b:Val} {r:Int} (H:jl a_op a_a a_b=some r):Pure Tryz.prog 95 [.one (.int .i64 a_op), .agg (cV a_a), .agg (cV a_b)] (.val (.one (.int .i64 r))):=by
 unfold jl at H
 refine po_ Tryz.func95 Tryz.ntmps95 ?_
 rcases af H with ⟨q_1,H⟩|⟨q_1,H⟩
 ·obtain ⟨r_2,c1,H⟩:=bd_ H
  replace c1:=U2 c1
  cases H
  exact aD
 rcases af H with ⟨q_3,H⟩|⟨q_3,H⟩
 ·obtain ⟨r_4,c2,H⟩:=bd_ H
  replace c2:=U2 c2
  obtain ⟨r_5,c3,H⟩:=bd_ H
  replace c3:=Ep c3
  cases H
  exact aD
 refine bF ?_
 rcases af H with ⟨q_6,H⟩|⟨q_6,H⟩
 ·obtain ⟨r_7,c4,H⟩:=bd_ H
  replace c4:=Am c4
  cases H
  exact aD
 rcases af H with ⟨q_8,H⟩|⟨q_8,H⟩
 ·obtain ⟨r_9,c5,H⟩:=bd_ H
  replace c5:=Am c5
  cases H
  exact aD
 rcases af H with ⟨q_10,H⟩|⟨q_10,H⟩
 ·obtain ⟨r_11,c6,H⟩:=bd_ H
  replace c6:=Am c6
  obtain ⟨r_12,c7,H⟩:=bd_ H
  replace c7:=Ep c7
  cases H
  exact aD
 obtain ⟨r_13,c8,H⟩:=bd_ H
 replace c8:=Am c8
 obtain ⟨r_14,c9,H⟩:=bd_ H
 replace c9:=Ep c9
 cases H
 exact aD
def Ya (a_n:Int):Option (Int):=some (CY a_n (IntKind.i64.wrap (0-a_n)))
theorem Wm {a_n:Int} {r:Int} (H:Ya a_n=some r):Pure Tryz.prog 145 [.one (.int .i64 a_n)] (.val (.one (.int .i64 r))):=by
 unfold Ya at H
 refine po_ Tryz.func145 Tryz.ntmps145 ?_
 cases H
 exact aD
def eD (a_op:Int) (a_a:Int) (a_b:Int):Option (Val):=bif (decide (a_op=(13:Int))) then (sF (IntKind.i64.wrap (a_a+a_b))).bind fun r_2=>some r_2 else
 bif (decide (a_op=(14:Int))) then (sF (IntKind.i64.wrap (a_a-a_b))).bind fun r_4=>some r_4 else
 bif (decide (a_op=(15:Int))) then bif (decide (a_a≠(0:Int))) then (Ya a_b).bind fun r_7=>(Ya a_a).bind fun r_8=>bif (decide (r_8≠0)) then (bif (decide ((IntKind.i64.wrap ((1125899906842624:Int).tdiv r_8))<r_7)) then (fQ ).bind fun r_10=>some r_10 else
 (sF (IntKind.i64.wrap (a_a*a_b))).bind fun r_11=>some r_11) else none else
 (sF (IntKind.i64.wrap (a_a*a_b))).bind fun r_12=>some r_12 else
 bif (decide (a_b=(0:Int))) then (fQ ).bind fun r_14=>some r_14 else
 bif (decide (a_op=(16:Int))) then bif (decide (a_b≠0)) then ((sF (IntKind.i64.wrap (a_a.tdiv a_b))).bind fun r_16=>some r_16) else none else
 bif (decide (a_b≠0)) then ((sF (a_a.tmod a_b)).bind fun r_17=>some r_17) else none
theorem PG {a_op:Int} {a_a:Int} {a_b:Int} {r:Val} (H:eD a_op a_a a_b=some r):Pure Tryz.prog 101 [.one (.int .i64 a_op), .one (.int .i64 a_a), .one (.int .i64 a_b)] (.val (.agg (cV r))):=by
 unfold eD at H
 refine po_ Tryz.func101 Tryz.ntmps101 ?_
 rcases af H with ⟨q_1,H⟩|⟨q_1,H⟩
 ·obtain ⟨r_2,c1,H⟩:=bd_ H
  replace c1:=oq c1
  cases H
  exact aD
 rcases af H with ⟨q_3,H⟩|⟨q_3,H⟩
 ·obtain ⟨r_4,c2,H⟩:=bd_ H
  replace c2:=oq c2
  cases H
  exact aD
 refine bF ?_
 rcases af H with ⟨q_5,H⟩|⟨q_5,H⟩
 ·rcases af H with ⟨q_6,H⟩|⟨q_6,H⟩
  ·obtain ⟨r_7,c3,H⟩:=bd_ H
   replace c3:=Wm c3
   obtain ⟨r_8,c4,H⟩:=bd_ H
   replace c4:=Wm c4
   obtain ⟨g5,H⟩:=aG H
   rcases af H with ⟨q_9,H⟩|⟨q_9,H⟩
   ·obtain ⟨r_10,c6,H⟩:=bd_ H
    replace c6:=dm c6
    cases H
    exact aD
   obtain ⟨r_11,c7,H⟩:=bd_ H
   replace c7:=oq c7
   cases H
   exact aD
  obtain ⟨r_12,c8,H⟩:=bd_ H
  replace c8:=oq c8
  cases H
  exact aD
 rcases af H with ⟨q_13,H⟩|⟨q_13,H⟩
 ·obtain ⟨r_14,c9,H⟩:=bd_ H
  replace c9:=dm c9
  cases H
  exact aD
 rcases af H with ⟨q_15,H⟩|⟨q_15,H⟩
 ·obtain ⟨g10,H⟩:=aG H
  obtain ⟨r_16,c11,H⟩:=bd_ H
  replace c11:=oq c11
  cases H
  exact aD
 obtain ⟨g12,H⟩:=aG H
 obtain ⟨r_17,c13,H⟩:=bd_ H
 replace c13:=oq c13
 cases H
 exact aD
def Hy (a_l:(List Val)) (a_kind:Int):(Int)->Option (Step (Int) (Bool)):=fun s=>match s with
 | i_1=>bif (decide (i_1<((a_l.length:Nat):Int))) then (aH a_l i_1).bind fun x_3=>bif (decide (x_3.kind≠a_kind)) then some (.ret false) else
 some (.next (IntKind.i64.wrap (i_1+(1:Int)))) else
 some (.exit i_1)
def Dg:Sum (Int) (Bool)->Option ((Bool))
 | .inl i_1=>some true
 | .inr q=>some q
def RF (a_l:(List Val)) (a_kind:Int):Option (Bool):=(ax (Hy a_l a_kind) fuel (0:Int)).bind (Dg)
theorem Hl {a_l:(List Val)} {a_kind:Int} {r:Bool} (H:RF a_l a_kind=some r):Pure Tryz.prog 96 [.one (.lst (a_l.map cV)), .one (.int .i64 a_kind)] (.val (.one (.bool r))):=by
 unfold RF at H
 refine po_ Tryz.func96 Tryz.ntmps96 ?_
 refine bF ?_
 refine alM_ (fun s:Int=>match s with|i_1=>[(0, .one (.c (.lst (a_l.map cV)))),(1, .one (.c (.int .i64 a_kind))),(5, .one (.c (.int .i64 i_1)))]) (fun s=>match s with|i_1=>[]) H (fun _=>ahe _)
  (fm_ dh [] rfl bH trivial) ?_
 rintro i_1 st1 hb1 hk1
 unfold Hy at hb1
 dsimp only at hb1 ⊢
 rcases af hb1 with ⟨q_2,hb1⟩|⟨q_2,hb1⟩
 ·obtain ⟨x_3,i1z,i1,i1x,hb1⟩:=aY (f:=cV) hb1
  rcases af hb1 with ⟨q_4,hb1⟩|⟨q_4,hb1⟩
  ·cases hb1
   have hx1:Dg (.inr false)=some _:=hk1
   unfold Dg at hx1
   dsimp only at hx1
   cases hx1
   exact aD
  cases hb1
  refine bF ?_
  exact ⟨_,rfl,fm_ dh [] rfl bH trivial⟩
 cases hb1
 have hx1:Dg (.inl i_1)=some _:=hk1
 unfold Dg at hx1
 dsimp only at hx1
 cases hx1
 exact aD
def qC (a_op:Int) (a_l:(List Val)):(Int × Int)->Option (Step (Int × Int) (Val)):=fun s=>match s with
 | (t_3,i_4)=>bif (decide (i_4<((a_l.length:Nat):Int))) then bif (decide (a_op=(5:Int))) then (aH a_l i_4).bind fun x_7=>(jy x_7).bind fun r_8=>(IV t_3 r_8).bind fun r_9=>some (.next (r_9,(IntKind.i64.wrap (i_4+(1:Int))))) else
 (aH a_l i_4).bind fun x_10=>(jy x_10).bind fun r_11=>(TU t_3 r_11).bind fun r_12=>some (.next (r_12,(IntKind.i64.wrap (i_4+(1:Int))))) else
 some (.exit (t_3,i_4))
def Cg:Sum (Int × Int) (Val)->Option ((Val))
 | .inl (t_3,i_4)=>(GD t_3).bind fun r_13=>some r_13
 | .inr q=>some q
def Ah (a_op:Int) (a_l:(List Val)):Option (Val):=(aH a_l (0:Int)).bind fun x_1=>(jy x_1).bind fun r_2=>(ax (qC a_op a_l) fuel (r_2,(1:Int))).bind (Cg)
theorem H8 {a_op:Int} {a_l:(List Val)} {r:Val} (H:Ah a_op a_l=some r):Pure Tryz.prog 94 [.one (.int .i64 a_op), .one (.lst (a_l.map cV))] (.val (.agg (cV r))):=by
 unfold Ah at H
 refine po_ Tryz.func94 Tryz.ntmps94 ?_
 obtain ⟨x_1,i1z,i1,i1x,H⟩:=aY (f:=cV) H
 obtain ⟨r_2,c2,H⟩:=bd_ H
 replace c2:=nO c2
 refine bF ?_
 refine alM_ (fun s:Int × Int=>match s with|(t_3,i_4)=>[(0, .one (.c (.int .i64 a_op))),(1, .one (.c (.lst (a_l.map cV)))),(4, .one (.ptr 0 0)),(5, .one (.c (.int .i64 t_3))),(6, .one (.c (.int .i64 i_4)))]) (fun s=>match s with|(t_3,i_4)=>[.box [.c (.int .i64 (0:Int)), .c (.int .i64 (0:Int)), .c (.str ByteArray.empty)]]) H (fun _=>ahe _)
  (fm_ dh [] rfl bH dw) ?_
 rintro ⟨t_3,i_4⟩ st1 hb1 hk1
 unfold qC at hb1
 dsimp only at hb1 ⊢
 rcases af hb1 with ⟨q_5,hb1⟩|⟨q_5,hb1⟩
 ·rcases af hb1 with ⟨q_6,hb1⟩|⟨q_6,hb1⟩
  ·obtain ⟨x_7,i3z,i3,i3x,hb1⟩:=aY (f:=cV) hb1
   obtain ⟨r_8,c4,hb1⟩:=bd_ hb1
   replace c4:=nO c4
   obtain ⟨r_9,c5,hb1⟩:=bd_ hb1
   replace c5:=aaH c5
   cases hb1
   refine bF ?_
   exact ⟨_,rfl,fm_ dh [] rfl bH dw⟩
  obtain ⟨x_10,i6z,i6,i6x,hb1⟩:=aY (f:=cV) hb1
  obtain ⟨r_11,c7,hb1⟩:=bd_ hb1
  replace c7:=nO c7
  obtain ⟨r_12,c8,hb1⟩:=bd_ hb1
  replace c8:=abL c8
  cases hb1
  refine bF ?_
  exact ⟨_,rfl,fm_ dh [] rfl bH dw⟩
 cases hb1
 have hx1:Cg (.inl (t_3,i_4))=some _:=hk1
 unfold Cg at hx1
 dsimp only at hx1
 obtain ⟨r_13,c9,hx1⟩:=bd_ hx1
 replace c9:=sK c9
 cases hx1
 exact aD
set_option maxHeartbeats 8000000
def kR (a_rel:Int) (a_p:aI) (a_q:aI):Option (Bool):=bif (decide (a_rel=(0:Int))) then some (decide (a_p.hi<a_q.lo)) else
 bif (decide (a_rel=(1:Int))) then some (decide (a_p.hi=a_q.lo)) else
 bif (decide (a_rel=(2:Int))) then bif (decide (a_p.lo<a_q.lo)) then bif (decide (a_q.lo<a_p.hi)) then some (decide (a_p.hi<a_q.hi)) else
 some false else
 some false else
 bif (decide (a_rel=(3:Int))) then bif (decide (a_p.lo=a_q.lo)) then some (decide (a_p.hi<a_q.hi)) else
 some false else
 bif (decide (a_rel=(4:Int))) then bif (decide (a_q.lo<a_p.lo)) then some (decide (a_p.hi<a_q.hi)) else
 some false else
 bif (decide (a_rel=(5:Int))) then bif (decide (a_p.hi=a_q.hi)) then some (decide (a_q.lo<a_p.lo)) else
 some false else
 bif (decide (a_rel=(6:Int))) then some (dL [.c (.int .i64 a_p.lo), .c (.int .i64 a_p.hi)] [.c (.int .i64 a_q.lo), .c (.int .i64 a_q.hi)]) else
 bif (decide (a_rel=(7:Int))) then bif (decide (a_p.hi=a_q.hi)) then some (decide (a_p.lo<a_q.lo)) else
 some false else
 bif (decide (a_rel=(8:Int))) then bif (decide (a_p.lo<a_q.lo)) then some (decide (a_q.hi<a_p.hi)) else
 some false else
 bif (decide (a_rel=(9:Int))) then bif (decide (a_p.lo=a_q.lo)) then some (decide (a_q.hi<a_p.hi)) else
 some false else
 bif (decide (a_rel=(10:Int))) then bif (decide (a_q.lo<a_p.lo)) then bif (decide (a_p.lo<a_q.hi)) then some (decide (a_q.hi<a_p.hi)) else
 some false else
 some false else
 bif (decide (a_rel=(11:Int))) then some (decide (a_q.hi=a_p.lo)) else
 bif (decide (a_rel=(12:Int))) then some (decide (a_q.hi<a_p.lo)) else
 some false
theorem aby {a_rel:Int} {a_p:aI} {a_q:aI} {r:Bool} (H:kR a_rel a_p a_q=some r):Pure Tryz.prog 192 [.one (.int .i64 a_rel), .agg (bE a_p), .agg (bE a_q)] (.val (.one (.bool r))):=by
 unfold kR at H
 refine po_ Tryz.func192 Tryz.ntmps192 ?_
 rcases af H with ⟨q_1,H⟩|⟨q_1,H⟩
 ·cases H
  exact aD
 rcases af H with ⟨q_2,H⟩|⟨q_2,H⟩
 ·cases H
  exact aD
 refine bF ?_
 rcases af H with ⟨q_3,H⟩|⟨q_3,H⟩
 ·rcases af H with ⟨q_4,H⟩|⟨q_4,H⟩
  ·rcases af H with ⟨q_5,H⟩|⟨q_5,H⟩
   ·cases H
    exact aD
   cases H
   exact aD
  cases H
  exact aD
 rcases af H with ⟨q_6,H⟩|⟨q_6,H⟩
 ·rcases af H with ⟨q_7,H⟩|⟨q_7,H⟩
  ·cases H
   exact aD
  cases H
  exact aD
 rcases af H with ⟨q_8,H⟩|⟨q_8,H⟩
 ·refine bF ?_
  rcases af H with ⟨q_9,H⟩|⟨q_9,H⟩
  ·cases H
   exact aD
  cases H
  exact aD
 refine bF ?_
 rcases af H with ⟨q_10,H⟩|⟨q_10,H⟩
 ·rcases af H with ⟨q_11,H⟩|⟨q_11,H⟩
  ·cases H
   exact aD
  cases H
  exact aD
 rcases af H with ⟨q_12,H⟩|⟨q_12,H⟩
 ·cases H
  exact aD
 rcases af H with ⟨q_13,H⟩|⟨q_13,H⟩
 ·refine bF ?_
  rcases af H with ⟨q_14,H⟩|⟨q_14,H⟩
  ·cases H
   exact aD
  cases H
  exact aD
 refine bF ?_
 rcases af H with ⟨q_15,H⟩|⟨q_15,H⟩
 ·rcases af H with ⟨q_16,H⟩|⟨q_16,H⟩
  ·cases H
   exact aD
  cases H
  exact aD
 rcases af H with ⟨q_17,H⟩|⟨q_17,H⟩
 ·rcases af H with ⟨q_18,H⟩|⟨q_18,H⟩
  ·cases H
   exact aD
  cases H
  exact aD
 rcases af H with ⟨q_19,H⟩|⟨q_19,H⟩
 ·refine bF ?_
  rcases af H with ⟨q_20,H⟩|⟨q_20,H⟩
  ·rcases af H with ⟨q_21,H⟩|⟨q_21,H⟩
   ·cases H
    exact aD
   cases H
   exact aD
  cases H
  exact aD
 refine bF ?_
 rcases af H with ⟨q_22,H⟩|⟨q_22,H⟩
 ·cases H
  exact aD
 rcases af H with ⟨q_23,H⟩|⟨q_23,H⟩
 ·cases H
  exact aD
 cases H
 exact aD
def Ai (a_rel:Int) (a_p:aI) (a_q:aI):Option (Bool):=(iP a_p).bind fun r_1=>bif r_1 then (iP a_q).bind fun r_3=>bif r_3 then (kR a_rel a_p a_q).bind fun r_5=>some r_5 else
 some false else
 some false
theorem Tf {a_rel:Int} {a_p:aI} {a_q:aI} {r:Bool} (H:Ai a_rel a_p a_q=some r):Pure Tryz.prog 171 [.one (.int .i64 a_rel), .agg (bE a_p), .agg (bE a_q)] (.val (.one (.bool r))):=by
 unfold Ai at H
 refine po_ Tryz.func171 Tryz.ntmps171 ?_
 obtain ⟨r_1,c1,H⟩:=bd_ H
 replace c1:=fw c1
 rcases af H with ⟨q_2,H⟩|⟨q_2,H⟩
 ·obtain ⟨r_3,c2,H⟩:=bd_ H
  replace c2:=fw c2
  rcases af H with ⟨q_4,H⟩|⟨q_4,H⟩
  ·obtain ⟨r_5,c3,H⟩:=bd_ H
   replace c3:=aby c3
   cases H
   exact aD
  cases H
  exact aD
 cases H
 exact aD
def uK (a_p:aI) (a_q:aI):(Int)->Option (Step (Int) (Int × Bool)):=fun s=>match s with
 | rel_1=>bif (decide (rel_1<(13:Int))) then (Ai rel_1 a_p a_q).bind fun r_3=>bif r_3 then some (.ret (rel_1,true)) else
 some (.next (IntKind.i64.wrap (rel_1+(1:Int)))) else
 some (.exit rel_1)
def yC:Sum (Int) (Int × Bool)->Option ((Int × Bool))
 | .inl rel_1=>some ((0:Int),false)
 | .inr q=>some q
def Q0 (a_p:aI) (a_q:aI):Option (Int × Bool):=(ax (uK a_p a_q) fuel (0:Int)).bind (yC)
theorem Z6 {a_p:aI} {a_q:aI} {r:Int × Bool} (H:Q0 a_p a_q=some r):Pure Tryz.prog 144 [.agg (bE a_p), .agg (bE a_q)] (.tup [.one (.int .i64 r.1), .one (.bool r.2)]):=by
 unfold Q0 at H
 refine po_ Tryz.func144 Tryz.ntmps144 ?_
 refine bF ?_
 refine alM_ (fun s:Int=>match s with|rel_1=>[(2, .one (.ptr 0 0)),(3, .one (.ptr 1 0)),(6, .one (.c (.int .i64 rel_1)))]) (fun s=>match s with|rel_1=>[.box [.c (.int .i64 a_p.lo), .c (.int .i64 a_p.hi)], .box [.c (.int .i64 a_q.lo), .c (.int .i64 a_q.hi)]]) H (fun _=>ahe _)
  (fm_ dh [] rfl bH dw) ?_
 rintro rel_1 st1 hb1 hk1
 unfold uK at hb1
 dsimp only at hb1 ⊢
 rcases af hb1 with ⟨q_2,hb1⟩|⟨q_2,hb1⟩
 ·obtain ⟨r_3,c1,hb1⟩:=bd_ hb1
  replace c1:=Tf c1
  rcases af hb1 with ⟨q_4,hb1⟩|⟨q_4,hb1⟩
  ·cases hb1
   have hx1:yC (.inr (rel_1,true))=some _:=hk1
   unfold yC at hx1
   dsimp only at hx1
   cases hx1
   exact aD
  cases hb1
  refine bF ?_
  exact ⟨_,rfl,fm_ dh [] rfl bH dw⟩
 cases hb1
 have hx1:yC (.inl rel_1)=some _:=hk1
 unfold yC at hx1
 dsimp only at hx1
 cases hx1
 exact aD
set_option maxHeartbeats 8000000
def uL (a_rel:Int) (a_l:(List Val)):Option (Val):=(RF a_l (1:Int)).bind fun r_1=>bif (!r_1) then (fQ ).bind fun r_3=>some r_3 else
 (aH a_l (0:Int)).bind fun x_4=>(aH a_l (1:Int)).bind fun x_5=>(aH a_l (2:Int)).bind fun x_6=>(aH a_l (3:Int)).bind fun x_7=>(Q0 (⟨x_4.int,x_5.int⟩:aI) (⟨x_6.int,x_7.int⟩:aI)).bind fun r_8=>bif (!r_8.2) then (fQ ).bind fun r_10=>some r_10 else
 (wB (decide (r_8.1=a_rel))).bind fun r_11=>some r_11
theorem PM {a_rel:Int} {a_l:(List Val)} {r:Val} (H:uL a_rel a_l=some r):Pure Tryz.prog 100 [.one (.int .i64 a_rel), .one (.lst (a_l.map cV))] (.val (.agg (cV r))):=by
 unfold uL at H
 refine po_ Tryz.func100 Tryz.ntmps100 ?_
 obtain ⟨r_1,c1,H⟩:=bd_ H
 replace c1:=Hl c1
 rcases af H with ⟨q_2,H⟩|⟨q_2,H⟩
 ·obtain ⟨r_3,c2,H⟩:=bd_ H
  replace c2:=dm c2
  cases H
  exact aD
 obtain ⟨x_4,i3z,i3,i3x,H⟩:=aY (f:=cV) H
 obtain ⟨x_5,i4z,i4,i4x,H⟩:=aY (f:=cV) H
 obtain ⟨x_6,i5z,i5,i5x,H⟩:=aY (f:=cV) H
 obtain ⟨x_7,i6z,i6,i6x,H⟩:=aY (f:=cV) H
 obtain ⟨r_8,c7,H⟩:=bd_ H
 replace c7:=Z6 c7
 rcases af H with ⟨q_9,H⟩|⟨q_9,H⟩
 ·obtain ⟨r_10,c8,H⟩:=bd_ H
  replace c8:=dm c8
  cases H
  exact aD
 obtain ⟨r_11,c9,H⟩:=bd_ H
 replace c9:=qj c9
 cases H
 exact aD
def yH (a_op:Int) (a_l:(List Val)):Option (Val):=(RF a_l (2:Int)).bind fun r_1=>bif (!r_1) then (fQ ).bind fun r_3=>some r_3 else
 bif (decide (a_op=(19:Int))) then (aH a_l (0:Int)).bind fun x_5=>(aH a_l (1:Int)).bind fun x_6=>bif (decide (x_5.text.size+x_6.text.size<=9223372036854775807)) then ((KW (x_5.text++x_6.text)).bind fun r_7=>some r_7) else none else
 (aH a_l (0:Int)).bind fun x_8=>(sF ((x_8.text.size:Nat):Int)).bind fun r_9=>some r_9
theorem MX {a_op:Int} {a_l:(List Val)} {r:Val} (H:yH a_op a_l=some r):Pure Tryz.prog 98 [.one (.int .i64 a_op), .one (.lst (a_l.map cV))] (.val (.agg (cV r))):=by
 unfold yH at H
 refine po_ Tryz.func98 Tryz.ntmps98 ?_
 obtain ⟨r_1,c1,H⟩:=bd_ H
 replace c1:=Hl c1
 rcases af H with ⟨q_2,H⟩|⟨q_2,H⟩
 ·obtain ⟨r_3,c2,H⟩:=bd_ H
  replace c2:=dm c2
  cases H
  exact aD
 rcases af H with ⟨q_4,H⟩|⟨q_4,H⟩
 ·obtain ⟨x_5,i3z,i3,i3x,H⟩:=aY (f:=cV) H
  obtain ⟨x_6,i4z,i4,i4x,H⟩:=aY (f:=cV) H
  obtain ⟨g5,H⟩:=aG H
  obtain ⟨r_7,c6,H⟩:=bd_ H
  replace c6:=Yo c6
  try simp only [ag8,ag6,ag_,ag0,aC] at c6
  cases H
  exact aD
 obtain ⟨x_8,i7z,i7,i7x,H⟩:=aY (f:=cV) H
 obtain ⟨r_9,c8,H⟩:=bd_ H
 replace c8:=oq c8
 cases H
 exact aD
def xy (a_l:(List Val)):(Int)->Option (Step (Int) (Val)):=fun s=>match s with
 | i_7=>bif (decide (i_7<((a_l.length:Nat):Int))) then (aH a_l i_7).bind fun x_9=>bif (decide (x_9.kind≠(0:Int))) then some (.ret x_9) else
 some (.next (IntKind.i64.wrap (i_7+(1:Int)))) else
 some (.exit i_7)
def qL:Sum (Int) (Val)->Option ((Val))
 | .inl i_7=>(fQ ).bind fun r_11=>some r_11
 | .inr q=>some q
def ww (a_op:Int) (a_l:(List Val)):Option (Val):=bif (decide (a_op=(22:Int))) then (aH a_l (0:Int)).bind fun x_2=>(jy x_2).bind fun r_3=>bif (decide (r_3=(2:Int))) then (aH a_l (1:Int)).bind fun x_5=>some x_5 else
 (aH a_l (2:Int)).bind fun x_6=>some x_6 else
 (ax (xy a_l) fuel (0:Int)).bind (qL)
theorem IR {a_op:Int} {a_l:(List Val)} {r:Val} (H:ww a_op a_l=some r):Pure Tryz.prog 99 [.one (.int .i64 a_op), .one (.lst (a_l.map cV))] (.val (.agg (cV r))):=by
 unfold ww at H
 refine po_ Tryz.func99 Tryz.ntmps99 ?_
 rcases af H with ⟨q_1,H⟩|⟨q_1,H⟩
 ·obtain ⟨x_2,i1z,i1,i1x,H⟩:=aY (f:=cV) H
  obtain ⟨r_3,c2,H⟩:=bd_ H
  replace c2:=nO c2
  rcases af H with ⟨q_4,H⟩|⟨q_4,H⟩
  ·obtain ⟨x_5,i3z,i3,i3x,H⟩:=aY (f:=cV) H
   cases H
   exact aD
  obtain ⟨x_6,i4z,i4,i4x,H⟩:=aY (f:=cV) H
  cases H
  exact aD
 refine bF ?_
 refine alM_ (fun s:Int=>match s with|i_7=>[(1, .one (.c (.lst (a_l.map cV)))),(4, .one (.ptr 0 0)),(5, .one (.c (.int .i64 i_7)))]) (fun s=>match s with|i_7=>[.box [.c (.int .i64 (0:Int)), .c (.int .i64 (0:Int)), .c (.str ByteArray.empty)]]) H (fun _=>ahe _)
  (fm_ dh [] rfl bH dw) ?_
 rintro i_7 st1 hb1 hk1
 unfold xy at hb1
 dsimp only at hb1 ⊢
 rcases af hb1 with ⟨q_8,hb1⟩|⟨q_8,hb1⟩
 ·obtain ⟨x_9,i5z,i5,i5x,hb1⟩:=aY (f:=cV) hb1
  rcases af hb1 with ⟨q_10,hb1⟩|⟨q_10,hb1⟩
  ·cases hb1
   have hx1:qL (.inr x_9)=some _:=hk1
   unfold qL at hx1
   dsimp only at hx1
   cases hx1
   exact aD
  cases hb1
  refine bF ?_
  exact ⟨_,rfl,fm_ dh [] rfl bH dw⟩
 cases hb1
 have hx1:qL (.inl i_7)=some _:=hk1
 unfold qL at hx1
 dsimp only at hx1
 obtain ⟨r_11,c6,hx1⟩:=bd_ hx1
 replace c6:=dm c6
 cases hx1
 exact aD
def Gt (a_e:Ex) (a_row:(List Val)):Option (Val):=bif (decide (a_e.op=(2:Int))) then (Ti a_row a_e.int).bind fun r_2=>(eP r_2).bind fun r_3=>bif (!r_3) then (fQ ).bind fun r_5=>some r_5 else
 some r_2 else
 (eP a_e.v).bind fun r_6=>bif (!r_6) then (fQ ).bind fun r_8=>some r_8 else
 some a_e.v
theorem QG {a_e:Ex} {a_row:(List Val)} {r:Val} (H:Gt a_e a_row=some r):Pure Tryz.prog 91 [.agg (tE a_e), .one (.lst (a_row.map cV))] (.val (.agg (cV r))):=by
 unfold Gt at H
 rw [aC a_e]
 refine po_ Tryz.func91 Tryz.ntmps91 ?_
 rcases af H with ⟨q_1,H⟩|⟨q_1,H⟩
 ·obtain ⟨r_2,c1,H⟩:=bd_ H
  replace c1:=Oh c1
  obtain ⟨r_3,c2,H⟩:=bd_ H
  replace c2:=qF c2
  rcases af H with ⟨q_4,H⟩|⟨q_4,H⟩
  ·obtain ⟨r_5,c3,H⟩:=bd_ H
   replace c3:=dm c3
   cases H
   exact aD
  cases H
  exact aD
 obtain ⟨r_6,c4,H⟩:=bd_ H
 replace c4:=qF c4
 rcases af H with ⟨q_7,H⟩|⟨q_7,H⟩
 ·obtain ⟨r_8,c5,H⟩:=bd_ H
  replace c5:=dm c5
  cases H
  exact aD
 cases H
 exact aD
set_option maxHeartbeats 8000000
def Kn (B:List (List Val)) (x:List Val):Nat->Nat
 | 0=>0
 | j+1=>match B[j]? with
  | some y=>if bS x y<0 then Kn B x j else j+1
  | none=>j+1
def Sv (B:List (List Val)) (x:List Val):List (List Val):=B.take (Kn B x B.length)++x::B.drop (Kn B x B.length)
def xK (l:List (List Val)):List (List Val):=l.foldl Sv []
theorem M5 (B:List (List Val)) (x:List Val) : ∀ j,j<=B.length->Kn B x j<=j/\(∀ i y,Kn B x j<=i->i<j->B[i]?=some y->bS x y<0)/\(∀ q,Kn B x j=q+1 -> ∃ y,B[q]?=some y /\ ¬ bS x y<0)
 | 0,_=>⟨ag' _,fun i y _ h=>by omega,fun q h=>by simp [Kn] at h⟩
 | j+1,hj=>by
  obtain ⟨y,hy⟩:=gol_ (show j<B.length by omega)
  have e:Kn B x (j+1)=if bS x y<0 then Kn B x j else j+1:=by rw [Kn,hy]
  rw [e]
  by_cases h:bS x y<0
  ·rw [if_pos h]
   obtain ⟨h1,h2,h3⟩:=M5 B x j (by omega)
   refine ⟨by omega,fun i z hi hij hz=>?_,h3⟩
   by_cases hij':i<j
   ·exact h2 i z hi hij' hz
   ·have:i=j:=by omega
    subst this
    rw [hy] at hz
    obtain rfl:=ahq hz
    exact h
  ·rw [if_neg h]
   refine ⟨ag' _,fun i z hi hij=>by omega,fun q hq=>?_⟩
   obtain rfl:j=q:=by omega
   exact ⟨y,hy,h⟩
theorem Xa (B:List (List Val)) (x:List Val):(Sv B x).Perm (x::B):=by
 unfold Sv
 refine List.perm_middle.trans ?_
 rw [ahE]
theorem ZQ {B:List (List Val)} (x:List Val) (h:Asc bS B):Asc bS (Sv B x):=by
 obtain ⟨h1,h2,h3⟩:=M5 B x B.length (ag' _)
 unfold Sv
 generalize Kn B x B.length=p at h1 h2 h3
 have hB:Asc bS (B.take p++B.drop p):=by rw [ahE];exact h
 obtain ⟨ht,hd,hc⟩:=List.pairwise_append.1 hB
 have hx : ∀ b∈B.drop p,bS x b<=0:=by
  intro b hb
  obtain ⟨i,hi⟩:=List.getElem?_of_mem hb
  rw [ahF] at hi
  have:=h2 (p+i) b (by omega) (agV.1 hi).1 hi
  omega
 have hl : ∀ a∈B.take p,bS a x<=0:=by
  intro a ha
  cases p with
  | zero=>simp at ha
  | succ q =>
   obtain ⟨y,hy,hn⟩:=h3 q rfl
   have hyx:bS y x<=0:=by
    have:=tCr_.anti x y
    have:=tCr_.anti y x
    omega
   have hq:q<B.length:=(agV.1 hy).1
   have ey:=(agV.1 hy).2
   rw [List.take_succ_eq_append_getElem hq,ey] at ha ht
   rcases ahl.1 ha with ha|ha
   ·exact tCr_.le_trans ((List.pairwise_append.1 ht).2.2 a ha y (by simp)) hyx
   ·obtain rfl:a=y:=by simpa using ha
    exact hyx
 refine List.pairwise_append.2 ⟨ht,ahP.2 ⟨hx,hd⟩,fun a ha b hb=>?_⟩
 rcases aha.1 hb with rfl|hb
 ·exact hl a ha
 ·exact hc a ha b hb
theorem E8 : ∀ (l B:List (List Val)),Asc bS B->Asc bS (l.foldl Sv B)/\(l.foldl Sv B).Perm (l++B)
 | [],B,h=>⟨h,List.Perm.refl _⟩
 | x::l,B,h=>by
  obtain ⟨h1,h2⟩:=E8 l (Sv B x) (ZQ x h)
  refine ⟨h1,h2.trans ?_⟩
  refine ((Xa B x).append_left l).trans ?_
  exact List.perm_middle
theorem FM (l:List (List Val)):Asc bS (xK l):=(E8 l [] List.Pairwise.nil).1
theorem lS (l:List (List Val)):(xK l).Perm l:=by
 have:=(E8 l [] List.Pairwise.nil).2
 rwa [ahs] at this
theorem OH {l r:List (List Val)} (h1:Asc bS r) (h2:r.Perm l):xK l=r:=BA tCr_ (FM l) h1 ((lS l).trans h2.symm)
def push {α β ρ:Type} (g:α->β) (N:Nat) (s:List β) (x:α):Option (Sum (List β) ρ):=bif decide (s.length+1<=N) then some (.inl (s++[g x])) else none
theorem Mr {α β ρ:Type} (g:α->β) (N:Nat) : ∀ (l:List α) (s:List β),s.length+l.length<=N->dF (ρ:=ρ) (push g N) s l=some (.inl (s++l.map g))
 | [],s,_=>by simp [dF]
 | x::l,s,h=>by
  have h':s.length+(l.length+1)<=N:=by simpa using h
  have e:push (ρ:=ρ) g N s x=some (.inl (s++[g x])):=by unfold push;rw [show decide (s.length+1<=N)=true from agZ (by omega)];rfl
  rw [dF,e]
  have:=Mr (ρ:=ρ) g N l (s++[g x]) (by simp;omega)
  simpa using this
theorem PU {α σ ρ:Type} {f:σ->α->Option (Sum σ ρ)} : ∀ (l:List α) (s:σ),(∀ s x,x∈l -> ∃ r,f s x=some r) -> ∃ r,dF f s l=some r
 | [],s,_=>⟨_,rfl⟩
 | x::l,s,h=>by
  obtain ⟨r,hr⟩:=h s x (ahG ..)
  rw [dF,hr]
  cases r with
  | inl s'=>exact PU l s' fun s y hy=>h s y (ahh _ hy)
  | inr r=>exact ⟨_,rfl⟩
theorem QN (x y:List Val) (hx:x.length<=1000000) (hy:y.length<=1000000):zD x y []=some (decide (bS x y<0)):=by
 unfold zD
 rw [di (l:=([]:List LJ)) (mk:=fun (_:Unit) i=>i) (f:=fun (_:Unit) (_:LJ)=>(none:Option (Sum Unit Bool))) ?_ ?_ (by unfold fuel;simp) ()]
 ·show lU x y (.inl ((([]:List LJ).length:Nat):Int))=_
  unfold lU
  rw [oz x y (by omega) (by omega)];rfl
 ·intro s i x hx;simp at hx
 ·intro s
  unfold BQ
  dsimp only
  rw [lF_,agW]
def XC (x y:List Val):Bool := !decide (bS y x<0)
theorem pV (x y:List Val):XC x y=true↔bS x y<=0:=by
 unfold XC
 have:=tCr_.anti x y
 have:=tCr_.anti y x
 simp
 omega
theorem w9 {a b:List (List Val)} (ha:a.length<=1000000) (hb:b.length<=1000000) (hra : ∀ r∈a,r.length<=1000000) (hrb : ∀ r∈b,r.length<=1000000) : ∀ (n i k:Nat) (out:List (List Val)),i<=a.length->k<=b.length->out.length=i+k->(a.length-i)+(b.length-k)<n->(ax (fF a b []) n (out,(i:Int),(k:Int))).bind vX=some (out++List.merge (a.drop i) (b.drop k) XC)
 | 0,_,_,_,_,_,_,h=>by omega
 | n+1,i,k,out,h1,h2,ho,hn=>by
  have hg:decide (out.length+1<=5864062014805)=true:=agZ (by omega)
  rw [ax]
  by_cases hlt:i<a.length
  ·obtain ⟨x,hx⟩:=gol_ hlt
   have ex:=(agV.1 hx).2
   have hne:decide ((i:Int)=((a.length:Nat):Int))=false:=agY (by omega)
   have ihA:=w9 ha hb hra hrb n (i+1) k (out++[x]) (by omega) (by omega) (by simp;omega) (by omega)
   by_cases hlb:k<b.length
   ·obtain ⟨y,hy⟩:=gol_ hlb
    have ey:=(agV.1 hy).2
    have ihB:=w9 ha hb hra hrb n i (k+1) (out++[y]) (by omega) (by omega) (by simp;omega) (by omega)
    have eb:fF a b [] (out,(i:Int),(k:Int))=bif decide (bS y x<0) then some (.next (out++[y],(i:Int),((k+1:Nat):Int))) else some (.next (out++[x],((i+1:Nat):Int),(k:Int))):=by
     unfold fF
     dsimp only
     rw [aV hx,agX,hne,agW,aV hy,agX,gn_ hy,gn_ hx]
     simp only [agU]
     rw [QN y x (hrb y (ag1 hy)) (hra x (ag1 hx)),wrapN (by omega),wrapN (by omega),hg]
     rfl
    rw [eb,ahp hlt,ahp hlb,ex,ey,List.cons_merge_cons]
    rw [ahp hlb,ey] at ihA
    rw [ahp hlt,ex] at ihB
    by_cases hc:bS y x<0
    ·rw [show decide (bS y x<0)=true from agZ hc,agX,if_neg (by unfold XC;simp [hc])]
     dsimp only
     rw [ihB];simp
    ·rw [show decide (bS y x<0)=false from agY hc,agW,if_pos (by unfold XC;simp [hc])]
     dsimp only
     rw [ihA];simp
   ·have hk:k=b.length:=by omega
    have eb:fF a b [] (out,(i:Int),(k:Int))=some (.next (out++[x],((i+1:Nat):Int),(k:Int))):=by
     unfold fF
     dsimp only
     rw [aV hx,agX,hne,agW,hk,lF_,agW,gn_ hx]
     simp only [agU]
     rw [wrapN (by omega),hg]
     rfl
    rw [eb]
    dsimp only
    rw [ihA,ahp hlt,ex,hk,ahO,List.merge_right,List.merge_right]
    simp
  ·have hi:i=a.length:=by omega
   subst hi
   by_cases hlb:k<b.length
   ·obtain ⟨y,hy⟩:=gol_ hlb
    have ey:=(agV.1 hy).2
    have ihB:=w9 ha hb hra hrb n a.length (k+1) (out++[y]) (by omega) (by omega) (by simp;omega) (by omega)
    have eb:fF a b [] (out,((a.length:Nat):Int),(k:Int))=some (.next (out++[y],((a.length:Nat):Int),((k+1:Nat):Int))):=by
     unfold fF
     dsimp only
     rw [lF_,agW,aV hy,agX,show decide (((a.length:Nat):Int)=((a.length:Nat):Int))=true from agZ rfl,agX,gn_ hy]
     simp only [agU]
     rw [wrapN (by omega),hg]
     rfl
    rw [eb]
    dsimp only
    rw [ihB,ahp hlb,ey,ahO,List.nil_merge,List.nil_merge]
    simp
   ·have hk:k=b.length:=by omega
    subst hk
    have eb:fF a b [] (out,((a.length:Nat):Int),((b.length:Nat):Int))=some (.exit (out,((a.length:Nat):Int),((b.length:Nat):Int))):=by
     unfold fF
     dsimp only
     rw [lF_,agW,lF_,agW]
    rw [eb,ahO,ahO,List.nil_merge,ahs]
    rfl
theorem Uh {a b:List (List Val)} (ha:a.length<=1000000) (hb:b.length<=1000000) (hra : ∀ r∈a,r.length<=1000000) (hrb : ∀ r∈b,r.length<=1000000):Dn a b []=some (List.merge a b XC):=by
 unfold Dn
 have:=w9 ha hb hra hrb fuel 0 0 [] (ahe _) (ahe _) rfl (by unfold fuel;omega)
 rw [show (((0:Nat):Int))=0 from rfl] at this
 rw [this];simp
theorem Ym {a b:List (List Val)} (ha:Asc bS a) (hb:Asc bS b):Asc bS (List.merge a b XC):=by
 have:=List.pairwise_merge (le:=XC) (fun x y z h1 h2=>(pV x z).2 (tCr_.le_trans ((pV x y).1 h1) ((pV y z).1 h2))) (fun x y=>by
  rw [Bool.or_eq_true,pV,pV];exact tCr_.total x y) a b (ha.imp fun h=>(pV _ _).2 h) (hb.imp fun h=>(pV _ _).2 h)
 exact this.imp fun h=>(pV _ _).1 h
theorem YD : ∀ (n:Nat) (l:List (List Val)),l.length<=n->l.length<=1000000->(∀ r∈l,r.length<=1000000) -> ∃ r,EH (n+1) l []=some r/\Asc bS r/\r.Perm l:=by
 intro n
 induction n with
 | zero =>
  intro l h _ _
  have:l=[]:=by cases l with|nil=>rfl|cons _ _=>simp at h
  subst this
  exact ⟨[],rfl,List.Pairwise.nil,List.Perm.refl _⟩
 | succ n ih =>
  intro l h hl hr
  match l,h,hl,hr with
  | [],_,_,_=>exact ⟨[],rfl,List.Pairwise.nil,List.Perm.refl _⟩
  | [x],_,_,hr =>
   have hx:=hr x (by simp)
   refine ⟨[x],?_,by simp [Asc],List.Perm.refl _⟩
   show wV (EH (n+1)) [x] []=_
   unfold wV
   simp only [ahf,aho]
   rw [show aH [x] 0=some x from rfl]
   simp only [agU]
   rw [show decide (x.length<=4398046511104)=true from agZ (by omega)]
   rfl
  | x::y::t,h,hl,hr =>
   generalize hL:x::y::t=l at h hl hr
   have h2:2<=l.length:=by rw [<- hL];simp
   have hm:IntKind.i64.wrap (((l.length:Nat):Int).tdiv (2:Int))=((l.length/2:Nat):Int):=by
    rw [show ((l.length:Nat):Int).tdiv 2=((l.length/2:Nat):Int) from rfl]
    exact ko (by omega) (by omega)
   have s1:lT l 0 ((l.length/2:Nat):Int)=some (l.take (l.length/2)):=by
    unfold lT
    rw [if_pos (by omega),Int.toNat_natCast];rfl
   have s2:lT l ((l.length/2:Nat):Int) ((l.length:Nat):Int)=some (l.drop (l.length/2)):=by
    unfold lT
    rw [if_pos (by omega),Int.toNat_natCast,Int.toNat_natCast,List.take_length]
   obtain ⟨r1,e1,a1,p1⟩:=ih (l.take (l.length/2)) (by simp;omega) (by simp;omega) fun r hr'=>hr r (ahQ hr')
   obtain ⟨r2,e2,a2,p2⟩:=ih (l.drop (l.length/2)) (by simp;omega) (by simp;omega) fun r hr'=>hr r (List.mem_of_mem_drop hr')
   refine ⟨List.merge r1 r2 XC,?_,Ym a1 a2,?_⟩
   ·show wV (EH (n+1)) l []=_
    unfold wV
    rw [show decide (((l.length:Nat):Int)=0)=false from agY (by omega),agW,show decide (((l.length:Nat):Int)=1)=false from agY (by omega),agW,show decide ((2:Int)≠0)=true from rfl,agX,hm,s1,s2]
    simp only [agU]
    rw [e1,e2]
    simp only [agU]
    rw [Uh (by rw [p1.length_eq];simp;omega) (by rw [p2.length_eq];simp;omega) (fun r hr'=>hr r (ahQ (p1.mem_iff.1 hr'))) (fun r hr'=>hr r (List.mem_of_mem_drop (p2.mem_iff.1 hr')))]
    rfl
   ·refine (List.merge_perm_append XC).trans ((p1.append p2).trans ?_)
    rw [ahE]
theorem FK (l:List (List Val)) (hl:l.length<=300) (hr : ∀ r∈l,r.length<=1000000):Br l=some (xK l):=by
 obtain ⟨r,e,a,p⟩:=YD 300 l hl (by omega) hr
 unfold Br
 rw [e,OH a p];rfl
theorem Bd {s:ByteArray} (hs:s.size<=1000000) : ∀ (n i:Nat),i<=s.size->s.size-i<n -> ∃ r,(ax (n_ s) n (i:Int)).bind eY=some r
 | 0,_,_,h=>by omega
 | n+1,i,h1,hn=>by
  rw [ax]
  unfold n_
  dsimp only
  by_cases hlt:i<s.size
  ·rw [show decide ((i:Int)<((s.size:Nat):Int))=true from agZ (by omega),agX]
   obtain ⟨b,hb⟩ : ∃ b,W_ s (i:Int)=some b:=by
    unfold W_
    rw [if_pos (by omega)]
    exact ⟨s[i],by simp [hlt]⟩
   rw [hb]
   simp only [agU]
   cases decide (((b.toNat:Nat):Int)<32) with
   | true=>exact ⟨_,rfl⟩
   | false =>
    cases decide ((126:Int)<((b.toNat:Nat):Int)) with
    | true=>exact ⟨_,rfl⟩
    | false =>
     simp only [agW]
     rw [wrapN (by omega)]
     exact Bd hs n (i+1) (by omega) (by omega)
  ·rw [show decide ((i:Int)<((s.size:Nat):Int))=false from agY (by omega),agW]
   exact ⟨_,rfl⟩
theorem Li {s:ByteArray} (hs:s.size<=1000000) : ∃ r,rO s=some r:=by
 have:=Bd hs fuel 0 (ahe _) (by unfold fuel;omega)
 rw [show (((0:Nat):Int))=0 from rfl] at this
 exact this
theorem II (v:Val) : ∃ r,eP v=some r:=by
 unfold eP
 cases decide (v.kind=0) with
 | true=>cases decide (v.int=0)<;>exact ⟨_,rfl⟩
 | false =>
  cases decide (v.kind=1) with
  | true=>cases (v.text.toList==(⟨#[]⟩:ByteArray).toList)<;>cases decide ((-1125899906842624:Int)<=v.int)<;>exact ⟨_,rfl⟩
  | false =>
   cases decide (v.kind=2) with
   | true =>
    cases decide (v.int=0) with
    | false=>exact ⟨_,rfl⟩
    | true =>
     by_cases h:((v.text.size:Nat):Int)<=200
     ·obtain ⟨r,hr⟩:=Li (s:=v.text) (by omega)
      rw [show decide (((v.text.size:Nat):Int)<=200)=true from agZ h,hr]
      exact ⟨_,rfl⟩
     ·rw [show decide (((v.text.size:Nat):Int)<=200)=false from agY h]
      exact ⟨_,rfl⟩
   | false =>
    cases decide (v.kind=3) with
    | true=>cases (v.text.toList==(⟨#[]⟩:ByteArray).toList)<;>cases decide (v.int=0)<;>exact ⟨_,rfl⟩
    | false=>exact ⟨_,rfl⟩
theorem Yy (row:List Val) (kinds:List Int) (h:row.length<=1000000) : ∃ r,wS row kinds=some r:=by
 unfold wS
 by_cases he:row.length=kinds.length
 ·rw [show decide (((row.length:Nat):Int)≠((kinds.length:Nat):Int))=false from agY (by omega),agW]
  have hz:(row.zip kinds).length=row.length:=by simp;omega
  have k:=di (l:=row.zip kinds) (body:=j_ row kinds) (mk:=fun (_:Unit) i=>i) (f:=fun (_:Unit) (x:Val × Int)=>(eP x.1).bind fun r=>bif (!r) then some (.inr false) else bif decide (x.1.kind≠0) then bif decide (x.1.kind≠x.2) then some (.inr false) else some (.inl ()) else some (.inl ())) ?_ ?_ (by unfold fuel;omega) ()
  ·obtain ⟨r,hr⟩:=PU (σ:=Unit) (ρ:=Bool) (f:=fun (_:Unit) (x:Val × Int)=>(eP x.1).bind fun r=>bif (!r) then some (.inr false) else bif decide (x.1.kind≠0) then bif decide (x.1.kind≠x.2) then some (.inr false) else some (.inl ()) else some (.inl ())) (row.zip kinds) () (by
    intro s x _
    obtain ⟨r,hr⟩:=II x.1
    rw [hr]
    cases r<;>cases decide (x.1.kind≠0)<;>cases decide (x.1.kind≠x.2)<;>exact ⟨_,rfl⟩)
   rw [k,hr]
   cases r with
   | inl _=>exact ⟨_,rfl⟩
   | inr _=>exact ⟨_,rfl⟩
  ·intro s i x hx
   obtain ⟨h1,h2⟩:=List.getElem?_zip_eq_some.1 hx
   have hi:i<row.length:=(agV.1 h1).1
   unfold j_
   dsimp only
   rw [aV h1,agX,gn_ h1,gn_ h2]
   simp only [agU]
   rw [wrapN (by omega)]
   cases eP x.1 with
   | none=>rfl
   | some r=>cases r<;>cases decide (x.1.kind≠0)<;>cases decide (x.1.kind≠x.2)<;>rfl
  ·intro s
   unfold j_
   dsimp only
   rw [hz,lF_,agW]
 ·rw [show decide (((row.length:Nat):Int)≠((kinds.length:Nat):Int))=true from agZ (by omega)]
  exact ⟨_,rfl⟩
theorem aa9 (k:Int) : ∃ r,Gf k=some r:=by
 unfold Gf
 cases decide (k=1)<;>cases decide (k=2)<;>exact ⟨_,rfl⟩
theorem YG (l:List Int) (h:l.length<=1000000) : ∃ r,Jv l=some r:=by
 unfold Jv
 have k:=di (l:=l) (body:=uJ l) (mk:=fun (_:Unit) i=>i) (f:=fun (_:Unit) (x:Int)=>(Gf x).bind fun r=>bif (!r) then some (.inr false) else some (.inl ())) ?_ ?_ (by unfold fuel;omega) ()
 ·obtain ⟨r,hr⟩:=PU (σ:=Unit) (ρ:=Bool) (f:=fun (_:Unit) (x:Int)=>(Gf x).bind fun r=>bif (!r) then some (.inr false) else some (.inl ())) l () (by
   intro s x _
   obtain ⟨r,hr⟩:=aa9 x
   rw [hr]
   cases r<;>exact ⟨_,rfl⟩)
  rw [k,hr]
  cases r with
  | inl _=>exact ⟨_,rfl⟩
  | inr _=>exact ⟨_,rfl⟩
 ·intro s i x hx
  have hi:i<l.length:=(agV.1 hx).1
  unfold uJ
  dsimp only
  rw [aV hx,agX,gn_ hx]
  simp only [agU]
  rw [wrapN (by omega)]
  cases Gf x with
  | none=>rfl
  | some r=>cases r<;>rfl
 ·intro s
  unfold uJ
  dsimp only
  rw [lF_,agW]
theorem Kg {α:Type} : ∀ {l:List α}, l.length=2 -> ∃ c0 c1,l=[c0,c1]
 | [c0,c1],_=>⟨c0,c1,rfl⟩
theorem aaK {α:Type} : ∀ {l:List α}, l.length=3 -> ∃ c0 c1 c2,l=[c0,c1,c2]
 | [c0,c1,c2],_=>⟨c0,c1,c2,rfl⟩
theorem aeW {α:Type} : ∀ {l:List α}, l.length=7 -> ∃ c0 c1 c2 c3 c4 c5 c6,l=[c0,c1,c2,c3,c4,c5,c6]
 | [c0,c1,c2,c3,c4,c5,c6],_=>⟨c0,c1,c2,c3,c4,c5,c6,rfl⟩
theorem adV {α:Type} : ∀ {l:List α}, l.length=11 -> ∃ c0 c1 c2 c3 c4 c5 c6 c7 c8 c9 c10,l=[c0,c1,c2,c3,c4,c5,c6,c7,c8,c9,c10]
 | [c0,c1,c2,c3,c4,c5,c6,c7,c8,c9,c10],_=>⟨c0,c1,c2,c3,c4,c5,c6,c7,c8,c9,c10,rfl⟩
theorem addr_add (b o n:Nat):(⟨b,o,none⟩:Addr).add n=⟨b,o+n,none⟩:=by
 unfold Addr.add
 split<;>simp_all
def RW {W:World} (hT:kK (fun b o=>W.cell? ⟨b,o,none⟩)):PH:=⟨fun b o=>W.cell? ⟨b,o,none⟩,hT⟩
def ng {W:World} (hT:kK (fun b o=>W.cell? ⟨b,o,none⟩)) (cs:List Value) (es:List AC):Prop:=cs.length=es.length /\ ∀ (j:Nat) u x,cs[j]?=some u->es[j]?=some x->bP (RW hT) u x
theorem ng.app {W:World} {hT:kK (fun b o=>W.cell? ⟨b,o,none⟩)} {c1 c2:List Value} {e1 e2:List AC} (h1:ng hT c1 e1) (h2:ng hT c2 e2):ng hT (c1++c2) (e1++e2):=by
 refine ⟨by rw [ag3,ag3,h1.1,h2.1],fun j u x hu hx=>?_⟩
 have hl:=h1.1
 by_cases hj:j<c1.length
 ·rw [ag9 hj] at hu
  rw [ag9 (by omega)] at hx
  exact h1.2 j u x hu hx
 ·rw [ag2 (by omega)] at hu
  rw [ag2 (by omega), <- hl] at hx
  exact h2.2 _ u x hu hx
theorem ng.one {W:World} {hT:kK (fun b o=>W.cell? ⟨b,o,none⟩)} {v:Value} {e:AC} (h:bP (RW hT) v e):ng hT [v] [e]:=by
 refine ⟨rfl,fun j u x hu hx=>?_⟩
 match j,hu,hx with
 | 0,hu,hx=>simp at hu hx;subst hu hx;exact h
 | j+1,hu,hx=>simp at hu
def PY (n:Int):Prop := -9223372036854775808<=n/\n<=9223372036854775807
def SOk (s:ByteArray):Prop:=s.size<=9223372036854775807
def GK {α:Type} (k:Nat) (Q:α->Prop) (l:List α):Prop:=l.length*k<=reachBytes /\ ∀ a∈l,Q a
def tQ {H:Type} (t:TypeId) (d:DataW H):Prop := ∀ n∈DataW.weights Tryz.prog t d,n<=reachBytes
theorem Vt {H:Type} {e:TypeId} : ∀ {l:List (DataW H)} {d:DataW H}, d∈l -> ∀ n∈DataW.weights Tryz.prog e d,n∈DataW.weightsAll Tryz.prog e l
 | x::l,d,h,n,hn=>by
  rw [DataW.weightsAll,ahl]
  rcases aha.1 h with rfl|h
  ·exact .inl hn
  ·exact .inr (Vt h n hn)
theorem fC {H:Type} : ∀ {ts:List TypeId} {l:List (DataW H)} {i:Nat} {t:TypeId} {d:DataW H}, ts[i]?=some t->l[i]?=some d -> ∀ n∈DataW.weights Tryz.prog t d,n∈DataW.weightsEach Tryz.prog ts l
 | t0::ts,d0::l,0,t,d,h1,h2,n,hn=>by
  simp at h1 h2;subst h1 h2
  rw [DataW.weightsEach,ahl];exact .inl hn
 | t0::ts,d0::l,i+1,t,d,h1,h2,n,hn=>by
  rw [DataW.weightsEach,ahl];exact .inr (fC (by simpa using h1) (by simpa using h2) n hn)
 | [],_,i,t,d,h1,_,n,hn=>by simp at h1
 | _::_,[],i,t,d,_,h2,n,hn=>by simp at h2
section
variable {H:Type} {enc:TypeId × Value->H} {W:World} {hT:kK (fun b o=>W.cell? ⟨b,o,none⟩)} {base:Nat} {spare:Nat->Bool} {held:Bool}
theorem gD {t:TypeId} (ht:Tryz.prog.underlying t=some (.int .i64)) {cs:List Value} {fuel:Nat} {x:DataW H × List MemPlace} (h:DataW.trod enc Tryz.prog W base spare held fuel t cs=some x) : ∃ n:Int,ng hT cs [.int .i64 n]/\PY n:=by
 obtain ⟨n,rfl,_,hw⟩:=DataW.trod_int ht h
 rw [Lit.wf,ahb] at hw
 exact ⟨n,ng.one (.int _ _),ahm hw.1,ahm hw.2⟩
theorem P7 {t:TypeId} (ht:Tryz.prog.underlying t=some .string) {cs:List Value} {fuel:Nat} {x:DataW H × List MemPlace} (h:DataW.trod enc Tryz.prog W base spare held fuel t cs=some x) : ∃ s:ByteArray,ng hT cs [.str s]/\SOk s:=by
 obtain ⟨s,rfl,_,hs⟩:=DataW.trod_string ht h
 exact ⟨s,ng.one (.str _),hs⟩
theorem dU {α:Type} {t e:TypeId} {k:Nat} {f:α->List AC} {Q:α->Prop} (ht:Tryz.prog.underlying t=some (.slice e)) (hk:Tryz.prog.cellsOf e=k) {by_:Nat} (hby:Tryz.prog.bytesOf e=by_) (hk0:0<k) (hf : ∀ x,(f x).length=k) {cs:List Value} {fuel:Nat} {x:DataW H × List MemPlace} (h:DataW.trod enc Tryz.prog W base spare held fuel t cs=some x) (hw:tQ t x.1)
  (hr : ∀ (fuel':Nat) (cs':List Value) (x':DataW H × List MemPlace),fuel'<fuel->DataW.trod enc Tryz.prog W base spare held fuel' e cs'=some x'->tQ e x'.1 -> ∃ a,ng hT cs' (f a)/\Q a) : ∃ l:List α,ng hT cs [.lst (l.map f)]/\GK by_ Q l:=by
 rcases DataW.trod_slice ht h with ⟨rfl,_⟩|⟨a,len,cap,elems,rest,n,hfu,rfl,hxe,_,hlc,hm,hel,hx,_,_⟩
 ·exact ⟨[],ng.one (gp _ _ _),by simp,fun a ha=>by cases ha⟩
 ·have hww:(∀ n∈DataW.weightsAll Tryz.prog e (elems.map (·.1)),n<=reachBytes)/\len*by_<=reachBytes:=by
   rw [hxe] at hw
   unfold tQ at hw
   simp only [DataW.weights,ht] at hw
   refine ⟨fun n hn=>hw n (ahh _ (List.mem_append_left _ hn)),?_⟩
   have:=hw _ (ahG ..)
   simp only [ag7,hel,hby] at this
   exact Nat.le_trans (ahv _ (Nat.le_add_right _ _)) this
  have hi : ∀ i,i<len -> ∃ y,(∃ cs',W.cells? base (a.add (i*k)) k=some cs'/\ng hT cs' (f y))/\Q y:=by
   intro i hlt
   have h1:=hx i hlt
   rw [ag4 (by omega),hk] at h1
   cases hc:W.cells? base (a.add (i*k)) k with
   | none=>rw [hc] at h1;cases h1
   | some cs'=>rw [hc] at h1;obtain ⟨y,h2,h3⟩:=hr n cs' _ (by omega) h1 (fun m hm=>hww.1 m (Vt (List.mem_map_of_mem (f:=fun p:DataW H × List MemPlace=>p.1) (List.getElem_mem (by omega))) m hm));exact ⟨y,⟨cs',rfl,h2⟩,h3⟩
  rcases Nat.eq_zero_or_pos len with h0|h0
  ·subst h0;exact ⟨[],ng.one (gp _ _ _),by simp,fun a ha=>by cases ha⟩
  ·obtain ⟨y0,⟨cs0,hc0,_⟩,_⟩:=hi 0 h0
   let g:Nat->α:=fun i=>if h:i<len then Classical.choose (hi i h) else y0
   have hg : ∀ i,i<len->(∃ cs',W.cells? base (a.add (i*k)) k=some cs'/\ng hT cs' (f (g i)))/\Q (g i):=by
    intro i hlt
    have:g i=Classical.choose (hi i hlt):=by simp [g,hlt]
    rw [this]
    exact Classical.choose_spec (hi i hlt)
   obtain ⟨b,off,spot⟩:=a
   have hs0:spot=none:=by
    obtain ⟨_,hl,hat⟩:=World.cells?_some hc0
    have h1:=hat 0 hk0
    rw [ag4 (by omega)] at h1
    have:=World.cell?_spot h1
    simpa [Addr.add] using this
   subst hs0
   refine ⟨(List.range len).map g,ng.one ?_,(by rw [ag7,List.length_range];exact hww.2),?_⟩
   ·have cell : ∀ i,i<len -> ∀ j,j<k -> ∃ u y,W.cell? ⟨b,off+(i*k+j),none⟩=some u/\(f (g i))[j]?=some y/\bP (RW hT) u y:=by
     intro i hlt j hj
     obtain ⟨⟨cs',hc,hcr⟩,_⟩:=hg i hlt
     obtain ⟨_,hl,hat⟩:=World.cells?_some hc
     have h1:=hat j hj
     rw [ag4 (by omega)] at h1
     have hfl:=hf (g i)
     refine ⟨_,_,?_,ag4 (by omega),hcr.2 j _ _ (ag4 (by omega)) (ag4 (by omega))⟩
     rw [addr_add,addr_add,Nat.add_assoc] at h1
     exact h1
    refine .lst (some ⟨b,off,none⟩) len cap _ k (fun j=>(W.cell? ⟨b,off+j,none⟩).getD (.bool false)) b off (by simp) hlc ?_ (fun _=>rfl) ?_ ?_
    ·intro e he
     simp only [List.map_map,aht] at he
     obtain ⟨i,_,rfl⟩:=he
     exact hf _
    ·intro j hj
     have hd:j/k<len:=by rw [Nat.div_lt_iff_lt_mul hk0];exact hj
     obtain ⟨u,y,h1,_,_⟩:=cell (j/k) hd (j%k) (Nat.mod_lt _ hk0)
     have hjj:j/k*k+j%k=j:=by rw [Nat.mul_comm];exact Nat.div_add_mod j k
     rw [hjj] at h1
     show W.cell? _=_
     rw [h1];rfl
    ·intro i e j x he hxx
     have hlt:i<len:=by have:=(agV.1 he).1;simpa using this
     have:e=f (g i):=by simp [hlt] at he;exact he.symm
     subst this
     have hj:j<k:=by have:=(agV.1 hxx).1;rw [hf] at this;exact this
     obtain ⟨u,y,h1,h2,h3⟩:=cell i hlt j hj
     rw [h2] at hxx
     obtain rfl:=ahq hxx
     rw [h1];exact h3
   ·intro a ha
    simp only [aht,List.mem_range] at ha
    obtain ⟨i,hlt,rfl⟩:=ha
    exact (hg i hlt).2
theorem CU {s:TypeId} {x:DataW H × List MemPlace} {fs:Array Field} {n:Nat} {cs:List Value} {xs:List (DataW H × List MemPlace)} (hs:Tryz.prog.underlying s=some (.struct fs)) (hx:x=(.agg (xs.map (·.1)),xs.flatMap (·.2))) (hw:tQ s x.1) (hl:xs.length=fs.size) (hf : ∀ (i:Nat) (f:Field),fs[i]?=some f->DataW.trod enc Tryz.prog W base spare held n f.type ((cs.drop f.offset).take (Tryz.prog.cellsOf f.type))=xs[i]?)
  (i:Nat) {f:Field} {t o k:Nat} (hi:fs[i]?=some f) (h1:f.type=t) (h2:f.offset=o) (h3:Tryz.prog.cellsOf t=k) : ∃ y,DataW.trod enc Tryz.prog W base spare held n t ((cs.drop o).take k)=some y/\tQ t y.1:=by
 have hlt:i<fs.size:=(ahD.1 hi).1
 have:=hf i f hi
 rw [h1,h2,h3,ag4 (by omega)] at this
 refine ⟨_,this,fun m hm=>?_⟩
 rw [hx] at hw
 unfold tQ at hw
 simp only [DataW.weights,hs] at hw
 refine hw m (fC (i:=i) ?_ ?_ m hm)
 ·rw [ahg,Array.getElem?_toList,hi];simp [h1]
 ·rw [ahg,ag4 (by omega)];rfl
end
structure Bc (x:Val):Prop where
 kind:PY x.kind
 int:PY x.int
 text:SOk x.text
section
variable {H:Type} {enc:TypeId × Value->H} {W:World} {hT:kK (fun b o=>W.cell? ⟨b,o,none⟩)} {base:Nat} {spare:Nat->Bool} {held:Bool}
theorem Zl : ∀ (fuel:Nat) {cs:List Value} {x:DataW H × List MemPlace}, DataW.trod enc Tryz.prog W base spare held fuel 27 cs=some x->tQ 27 x.1 -> ∃ a:Val,ng hT cs (cV a)/\Bc a:=by
 intro fuel
 intro cs x h hw
 obtain ⟨xs,n,hfu,hxe,hlen,hxs,hf⟩:=DataW.trod_struct Tryz.underlying27 h
 rw [show Tryz.prog.cellsOf 27=3 by kernel_rfl] at hlen
 obtain ⟨c0,c1,c2,rfl⟩:=aaK hlen
 obtain ⟨y0,h0,w0⟩:=CU Tryz.underlying27 hxe hw hxs hf 0 (t:=3) (o:=0) (k:=1) rfl rfl rfl (by kernel_rfl)
 replace h0:DataW.trod enc Tryz.prog W base spare held n 3 [c0]=some y0:=h0
 obtain ⟨l0,r0,q0⟩:=gD Tryz.underlying3 h0
 obtain ⟨y1,h1,w1⟩:=CU Tryz.underlying27 hxe hw hxs hf 1 (t:=3) (o:=1) (k:=1) rfl rfl rfl (by kernel_rfl)
 replace h1:DataW.trod enc Tryz.prog W base spare held n 3 [c1]=some y1:=h1
 obtain ⟨l1,r1,q1⟩:=gD Tryz.underlying3 h1
 obtain ⟨y2,h2,w2⟩:=CU Tryz.underlying27 hxe hw hxs hf 2 (t:=9) (o:=2) (k:=1) rfl rfl rfl (by kernel_rfl)
 replace h2:DataW.trod enc Tryz.prog W base spare held n 9 [c2]=some y2:=h2
 obtain ⟨l2,r2,q2⟩:=P7 Tryz.underlying9 h2
 exact ⟨⟨l0,l1,l2⟩,((r0.app r1).app r2),⟨q0,q1,q2⟩⟩
end
structure DU (x:aI):Prop where
 lo:PY x.lo
 hi:PY x.hi
section
variable {H:Type} {enc:TypeId × Value->H} {W:World} {hT:kK (fun b o=>W.cell? ⟨b,o,none⟩)} {base:Nat} {spare:Nat->Bool} {held:Bool}
theorem Jj : ∀ (fuel:Nat) {cs:List Value} {x:DataW H × List MemPlace}, DataW.trod enc Tryz.prog W base spare held fuel 33 cs=some x->tQ 33 x.1 -> ∃ a:aI,ng hT cs (bE a)/\DU a:=by
 intro fuel
 intro cs x h hw
 obtain ⟨xs,n,hfu,hxe,hlen,hxs,hf⟩:=DataW.trod_struct Tryz.underlying33 h
 rw [show Tryz.prog.cellsOf 33=2 by kernel_rfl] at hlen
 obtain ⟨c0,c1,rfl⟩:=Kg hlen
 obtain ⟨y0,h0,w0⟩:=CU Tryz.underlying33 hxe hw hxs hf 0 (t:=3) (o:=0) (k:=1) rfl rfl rfl (by kernel_rfl)
 replace h0:DataW.trod enc Tryz.prog W base spare held n 3 [c0]=some y0:=h0
 obtain ⟨l0,r0,q0⟩:=gD Tryz.underlying3 h0
 obtain ⟨y1,h1,w1⟩:=CU Tryz.underlying33 hxe hw hxs hf 1 (t:=3) (o:=1) (k:=1) rfl rfl rfl (by kernel_rfl)
 replace h1:DataW.trod enc Tryz.prog W base spare held n 3 [c1]=some y1:=h1
 obtain ⟨l1,r1,q1⟩:=gD Tryz.underlying3 h1
 exact ⟨⟨l0,l1⟩,(r0.app r1),⟨q0,q1⟩⟩
theorem PE {cs:List Value} {fuel:Nat} {x:DataW H × List MemPlace} (h:DataW.trod enc Tryz.prog W base spare held fuel 45 cs=some x) (hw:tQ 45 x.1) : ∃ l:List Val,ng hT cs [.lst (l.map cV)]/\GK 32 Bc l :=
 dU (k:=3) (f:=cV) (Q:=Bc) Tryz.underlying45 (by kernel_rfl) (by kernel_rfl) (by decide) (fun _=>rfl) h hw (fun f c x _ h hw=>Zl f h hw)
end
structure VD (x:aj):Prop where
 row:(GK 32 Bc) x.row
 valid:DU x.valid
section
variable {H:Type} {enc:TypeId × Value->H} {W:World} {hT:kK (fun b o=>W.cell? ⟨b,o,none⟩)} {base:Nat} {spare:Nat->Bool} {held:Bool}
theorem aeh : ∀ (fuel:Nat) {cs:List Value} {x:DataW H × List MemPlace}, DataW.trod enc Tryz.prog W base spare held fuel 50 cs=some x->tQ 50 x.1 -> ∃ a:aj,ng hT cs (aJ a)/\VD a:=by
 intro fuel
 intro cs x h hw
 obtain ⟨xs,n,hfu,hxe,hlen,hxs,hf⟩:=DataW.trod_struct Tryz.underlying50 h
 rw [show Tryz.prog.cellsOf 50=3 by kernel_rfl] at hlen
 obtain ⟨c0,c1,c2,rfl⟩:=aaK hlen
 obtain ⟨y0,h0,w0⟩:=CU Tryz.underlying50 hxe hw hxs hf 0 (t:=45) (o:=0) (k:=1) rfl rfl rfl (by kernel_rfl)
 replace h0:DataW.trod enc Tryz.prog W base spare held n 45 [c0]=some y0:=h0
 obtain ⟨l0,r0,q0⟩:=PE h0 w0
 obtain ⟨y1,h1,w1⟩:=CU Tryz.underlying50 hxe hw hxs hf 1 (t:=33) (o:=1) (k:=2) rfl rfl rfl (by kernel_rfl)
 replace h1:DataW.trod enc Tryz.prog W base spare held n 33 [c1,c2]=some y1:=h1
 obtain ⟨l1,r1,q1⟩:=Jj n h1 w1
 exact ⟨⟨l0,l1⟩,(r0.app r1),⟨q0,q1⟩⟩
theorem adQ {cs:List Value} {fuel:Nat} {x:DataW H × List MemPlace} (h:DataW.trod enc Tryz.prog W base spare held fuel 22 cs=some x) (hw:tQ 22 x.1) : ∃ l:List Int,ng hT cs [.lst (l.map (fun x=>[AC.int .i64 x]))]/\GK 8 PY l :=
 dU (k:=1) (f:=(fun x=>[AC.int .i64 x])) (Q:=PY) Tryz.underlying22 (by kernel_rfl) (by kernel_rfl) (by decide) (fun _=>rfl) h hw (fun f c x _ h hw=>gD Tryz.underlying3 h)
theorem adt {cs:List Value} {fuel:Nat} {x:DataW H × List MemPlace} (h:DataW.trod enc Tryz.prog W base spare held fuel 23 cs=some x) (hw:tQ 23 x.1) : ∃ l:List aj,ng hT cs [.lst (l.map aJ)]/\GK 40 VD l :=
 dU (k:=3) (f:=aJ) (Q:=VD) Tryz.underlying23 (by kernel_rfl) (by kernel_rfl) (by decide) (fun _=>rfl) h hw (fun f c x _ h hw=>aeh f h hw)
end
structure uj (x:dA):Prop where
 kinds:(GK 8 PY) x.kinds
 facts:(GK 40 VD) x.facts
section
variable {H:Type} {enc:TypeId × Value->H} {W:World} {hT:kK (fun b o=>W.cell? ⟨b,o,none⟩)} {base:Nat} {spare:Nat->Bool} {held:Bool}
theorem EE : ∀ (fuel:Nat) {cs:List Value} {x:DataW H × List MemPlace}, DataW.trod enc Tryz.prog W base spare held fuel 25 cs=some x->tQ 25 x.1 -> ∃ a:dA,ng hT cs (tL a)/\uj a:=by
 intro fuel
 intro cs x h hw
 obtain ⟨xs,n,hfu,hxe,hlen,hxs,hf⟩:=DataW.trod_struct Tryz.underlying25 h
 rw [show Tryz.prog.cellsOf 25=2 by kernel_rfl] at hlen
 obtain ⟨c0,c1,rfl⟩:=Kg hlen
 obtain ⟨y0,h0,w0⟩:=CU Tryz.underlying25 hxe hw hxs hf 0 (t:=22) (o:=0) (k:=1) rfl rfl rfl (by kernel_rfl)
 replace h0:DataW.trod enc Tryz.prog W base spare held n 22 [c0]=some y0:=h0
 obtain ⟨l0,r0,q0⟩:=adQ h0 w0
 obtain ⟨y1,h1,w1⟩:=CU Tryz.underlying25 hxe hw hxs hf 1 (t:=23) (o:=1) (k:=1) rfl rfl rfl (by kernel_rfl)
 replace h1:DataW.trod enc Tryz.prog W base spare held n 23 [c1]=some y1:=h1
 obtain ⟨l1,r1,q1⟩:=adt h1 w1
 exact ⟨⟨l0,l1⟩,(r0.app r1),⟨q0,q1⟩⟩
end
inductive R5:Ex->Prop
 | mk {op:Int} {int:Int} {v:Val} {nm:ByteArray} {args:(List Ex)} (h0:PY op) (h1:PY int) (h2:Bc v) (h3:SOk nm) (h4:args.length*88<=reachBytes) (g4 : ∀ a∈args,R5 a):R5 (.mk op int v nm args)
section
variable {H:Type} {enc:TypeId × Value->H} {W:World} {hT:kK (fun b o=>W.cell? ⟨b,o,none⟩)} {base:Nat} {spare:Nat->Bool} {held:Bool}
theorem ac4 : ∀ (fuel:Nat) {cs:List Value} {x:DataW H × List MemPlace}, DataW.trod enc Tryz.prog W base spare held fuel 30 cs=some x->tQ 30 x.1 -> ∃ a:Ex,ng hT cs (tE a)/\R5 a:=by
 intro fuel
 induction fuel using Nat.strongRecOn with
 | ind fuel ih =>
 intro cs x h hw
 obtain ⟨xs,n,hfu,hxe,hlen,hxs,hf⟩:=DataW.trod_struct Tryz.underlying30 h
 rw [show Tryz.prog.cellsOf 30=7 by kernel_rfl] at hlen
 obtain ⟨c0,c1,c2,c3,c4,c5,c6,rfl⟩:=aeW hlen
 obtain ⟨y0,h0,w0⟩:=CU Tryz.underlying30 hxe hw hxs hf 0 (t:=3) (o:=0) (k:=1) rfl rfl rfl (by kernel_rfl)
 replace h0:DataW.trod enc Tryz.prog W base spare held n 3 [c0]=some y0:=h0
 obtain ⟨l0,r0,q0⟩:=gD Tryz.underlying3 h0
 obtain ⟨y1,h1,w1⟩:=CU Tryz.underlying30 hxe hw hxs hf 1 (t:=3) (o:=1) (k:=1) rfl rfl rfl (by kernel_rfl)
 replace h1:DataW.trod enc Tryz.prog W base spare held n 3 [c1]=some y1:=h1
 obtain ⟨l1,r1,q1⟩:=gD Tryz.underlying3 h1
 obtain ⟨y2,h2,w2⟩:=CU Tryz.underlying30 hxe hw hxs hf 2 (t:=27) (o:=2) (k:=3) rfl rfl rfl (by kernel_rfl)
 replace h2:DataW.trod enc Tryz.prog W base spare held n 27 [c2,c3,c4]=some y2:=h2
 obtain ⟨l2,r2,q2⟩:=Zl n h2 w2
 obtain ⟨y3,h3,w3⟩:=CU Tryz.underlying30 hxe hw hxs hf 3 (t:=9) (o:=5) (k:=1) rfl rfl rfl (by kernel_rfl)
 replace h3:DataW.trod enc Tryz.prog W base spare held n 9 [c5]=some y3:=h3
 obtain ⟨l3,r3,q3⟩:=P7 Tryz.underlying9 h3
 obtain ⟨y4,h4,w4⟩:=CU Tryz.underlying30 hxe hw hxs hf 4 (t:=28) (o:=6) (k:=1) rfl rfl rfl (by kernel_rfl)
 replace h4:DataW.trod enc Tryz.prog W base spare held n 28 [c6]=some y4:=h4
 obtain ⟨l4,r4,q4⟩:=dU (k:=7) (f:=tE) (Q:=R5) Tryz.underlying28 (by kernel_rfl) (by kernel_rfl) (by decide) NS h4 w4 (fun f c x hlt h hw=>ih f (by omega) h hw)
 exact ⟨.mk l0 l1 l2 l3 l4,(by rw [aC];exact ((((r0.app r1).app r2).app r3).app r4)), .mk q0 q1 q2 q3 q4.1 q4.2⟩
theorem adF {cs:List Value} {fuel:Nat} {x:DataW H × List MemPlace} (h:DataW.trod enc Tryz.prog W base spare held fuel 28 cs=some x) (hw:tQ 28 x.1) : ∃ l:List Ex,ng hT cs [.lst (l.map tE)]/\GK 88 R5 l :=
 dU (k:=7) (f:=tE) (Q:=R5) Tryz.underlying28 (by kernel_rfl) (by kernel_rfl) (by decide) NS h hw (fun f c x _ h hw=>ac4 f h hw)
theorem aes {cs:List Value} {fuel:Nat} {x:DataW H × List MemPlace} (h:DataW.trod enc Tryz.prog W base spare held fuel 31 cs=some x) (hw:tQ 31 x.1) : ∃ l:List (List Val),ng hT cs [.lst (l.map (fun x=>[AC.lst (x.map cV)]))]/\GK 24 (GK 32 Bc) l :=
 dU (k:=1) (f:=(fun x=>[AC.lst (x.map cV)])) (Q:=(GK 32 Bc)) Tryz.underlying31 (by kernel_rfl) (by kernel_rfl) (by decide) (fun _=>rfl) h hw (fun f c x _ h hw=>PE h hw)
end
structure kw (x:cO):Prop where
 pred:R5 x.pred
 sets:(GK 88 R5) x.sets
 rows:(GK 24 (GK 32 Bc)) x.rows
 during:DU x.during
section
variable {H:Type} {enc:TypeId × Value->H} {W:World} {hT:kK (fun b o=>W.cell? ⟨b,o,none⟩)} {base:Nat} {spare:Nat->Bool} {held:Bool}
theorem uz : ∀ (fuel:Nat) {cs:List Value} {x:DataW H × List MemPlace}, DataW.trod enc Tryz.prog W base spare held fuel 35 cs=some x->tQ 35 x.1 -> ∃ a:cO,ng hT cs (iB a)/\kw a:=by
 intro fuel
 intro cs x h hw
 obtain ⟨xs,n,hfu,hxe,hlen,hxs,hf⟩:=DataW.trod_struct Tryz.underlying35 h
 rw [show Tryz.prog.cellsOf 35=11 by kernel_rfl] at hlen
 obtain ⟨c0,c1,c2,c3,c4,c5,c6,c7,c8,c9,c10,rfl⟩:=adV hlen
 obtain ⟨y0,h0,w0⟩:=CU Tryz.underlying35 hxe hw hxs hf 0 (t:=30) (o:=0) (k:=7) rfl rfl rfl (by kernel_rfl)
 replace h0:DataW.trod enc Tryz.prog W base spare held n 30 [c0,c1,c2,c3,c4,c5,c6]=some y0:=h0
 obtain ⟨l0,r0,q0⟩:=ac4 n h0 w0
 obtain ⟨y1,h1,w1⟩:=CU Tryz.underlying35 hxe hw hxs hf 1 (t:=28) (o:=7) (k:=1) rfl rfl rfl (by kernel_rfl)
 replace h1:DataW.trod enc Tryz.prog W base spare held n 28 [c7]=some y1:=h1
 obtain ⟨l1,r1,q1⟩:=adF h1 w1
 obtain ⟨y2,h2,w2⟩:=CU Tryz.underlying35 hxe hw hxs hf 2 (t:=31) (o:=8) (k:=1) rfl rfl rfl (by kernel_rfl)
 replace h2:DataW.trod enc Tryz.prog W base spare held n 31 [c8]=some y2:=h2
 obtain ⟨l2,r2,q2⟩:=aes h2 w2
 obtain ⟨y3,h3,w3⟩:=CU Tryz.underlying35 hxe hw hxs hf 3 (t:=33) (o:=9) (k:=2) rfl rfl rfl (by kernel_rfl)
 replace h3:DataW.trod enc Tryz.prog W base spare held n 33 [c9,c10]=some y3:=h3
 obtain ⟨l3,r3,q3⟩:=Jj n h3 w3
 exact ⟨⟨l0,l1,l2,l3⟩,(by rw [aC] at r0;exact (((r0.app r1).app r2).app r3)),⟨q0,q1,q2,q3⟩⟩
end
theorem Hu : ∀ (a b x y:List UInt8),(32:UInt8)∉a->(32:UInt8)∉b->a++32::x=b++32::y->a=b/\x=y
 | [],[],x,y,_,_,h=>by simpa using h
 | [],c::b,x,y,_,hb,h=>by
  simp at h
  exact absurd h.1.symm (fun e=>hb (by rw [e];simp))
 | c::a,[],x,y,ha,_,h=>by
  simp at h
  exact absurd h.1 (fun e=>ha (by rw [e];simp))
 | c::a,d::b,x,y,ha,hb,h=>by
  simp at h
  obtain ⟨h1,h2⟩:=Hu a b x y (fun q=>ha (ahh _ q)) (fun q=>hb (ahh _ q)) h.2
  exact ⟨by rw [h.1,h1],h2⟩
def Y0 (b:UInt8):Prop:=48<=b.toNat/\b.toNat<=57
theorem O3 {d:Nat} (h:d<10):(UInt8.ofNat (48+d)).toNat=48+d:=by
 rw [UInt8.toNat_ofNat'];omega
theorem tY (u:Nat) : ∀ b∈Lib.decDigits u,Y0 b:=by
 induction u using Nat.strongRecOn with
 | _ u ih =>
  intro b hb
  rw [Lib.decDigits] at hb
  split at hb
  ·rename_i h
   rw [ahz.1 hb];unfold Y0;rw [O3 h];omega
  ·rename_i h
   rcases ahl.1 hb with hb|hb
   ·exact ih (u/10) (by omega) b hb
   ·rw [ahz.1 hb];unfold Y0;rw [O3 (by omega)];omega
def Pj (l:List UInt8):Nat:=l.foldl (fun a b=>a*10+(b.toNat-48)) 0
theorem Qx (l:List UInt8) (b:UInt8):Pj (l++[b])=Pj l*10+(b.toNat-48):=by unfold Pj;rw [List.foldl_append];rfl
theorem AY (u:Nat):Pj (Lib.decDigits u)=u:=by
 induction u using Nat.strongRecOn with
 | _ u ih =>
  rw [Lib.decDigits]
  split
  ·rename_i h
   show 0*10+((UInt8.ofNat (48+u)).toNat-48)=u
   rw [O3 h];omega
  ·rename_i h
   rw [Qx,ih (u/10) (by omega),O3 (by omega)];omega
theorem A9 {u v:Nat} (h:Lib.decDigits u=Lib.decDigits v):u=v:=by rw [<- AY u,h,AY]
theorem qo (n:Int):(32:UInt8)∉Lib.itoa n:=by
 intro h
 unfold Lib.itoa at h
 split at h
 ·rcases aha.1 h with h|h
  ·exact absurd h (by decide)
  ·have:=(tY _ _ h).1;exact absurd this (by decide)
 ·have:=(tY _ _ h).1;exact absurd this (by decide)
theorem Il {n m:Int} (h:Lib.itoa n=Lib.itoa m):n=m:=by
 have key : ∀ (a b:Nat),Lib.decDigits a≠45::Lib.decDigits b:=by
  intro a b e
  have:=(tY a 45 (by rw [e];simp)).1
  exact absurd this (by decide)
 unfold Lib.itoa at h
 split at h<;>split at h
 ·have:=A9 (List.cons.inj h).2;omega
 ·exact absurd h.symm (key _ _)
 ·exact absurd h (key _ _)
 ·have:=A9 h;omega
def DN (v:Val):List UInt8:=Lib.itoa v.kind++32::(Lib.itoa v.int++32::(Lib.itoa v.text.size++32::v.text.data.toList))
def LG (l:List Val):List UInt8:=l.flatMap DN
theorem ad4 (a b:ByteArray):(a++b).data.toList=a.data.toList++b.data.toList:=by simp
theorem NE (l:List Val):(dP l).data.toList=LG l:=by
 have : ∀ (l:List Val) (a:ByteArray),(l.foldl (fun a v=>nS a (Dp v)++v.text) a).data.toList=a.data.toList++LG l:=by
  intro l
  induction l with
  | nil=>intro a;simp [LG]
  | cons v l ih =>
   intro a
   rw [ahJ,ih]
   have e:nS a (Dp v)=a++nu v.kind++c32++nu v.int++c32++nu v.text.size++c32:=rfl
   have e1 : ∀ n,(nu n).data.toList=Lib.itoa n:=fun n=>rfl
   have e2:c32.data.toList=[32]:=rfl
   rw [e]
   simp only [ad4,e1,e2,LG,ahw,DN,ahk,List.cons_append,ag0]
 have:=this l ⟨#[]⟩
 simpa [dP] using this
theorem Wp {v w:Val} {x y:List UInt8} (h:DN v++x=DN w++y):v=w/\x=y:=by
 unfold DN at h
 simp only [ahk,List.cons_append] at h
 obtain ⟨h1,h⟩:=Hu _ _ _ _ (qo _) (qo _) h
 obtain ⟨h2,h⟩:=Hu _ _ _ _ (qo _) (qo _) h
 obtain ⟨h3,h⟩:=Hu _ _ _ _ (qo _) (qo _) h
 have h3:=Il h3
 have hs:v.text.data.toList.length=w.text.data.toList.length:=by
  have e : ∀ s:ByteArray,s.data.toList.length=s.size:=fun s=>rfl
  rw [e,e];omega
 obtain ⟨h4,h5⟩:=List.append_inj h hs
 refine ⟨?_,h5⟩
 obtain ⟨a,b,⟨⟨c⟩⟩⟩:=v
 obtain ⟨a',b',⟨⟨c'⟩⟩⟩:=w
 simp only at h1 h2 h4
 rw [Il h1,Il h2,h4]
theorem Q8 : ∀ (a b:List Val),LG a=LG b->a=b
 | [],[],_=>rfl
 | [],w::b,h=>by
  have:=congrArg List.length h
  simp [LG,DN] at this
 | v::a,[],h=>by
  have:=congrArg List.length h
  simp [LG,DN] at this
 | v::a,w::b,h=>by
  have h':DN v++LG a=DN w++LG b:=h
  obtain ⟨h1,h2⟩:=Wp h'
  rw [h1,Q8 a b h2]
theorem key_inj {a b:List Val} (h:dP a=dP b):a=b:=Q8 a b (by rw [<- NE, <- NE,h])
end Go.Proofs.YtcehmafobkhdbaaGreatDoor
