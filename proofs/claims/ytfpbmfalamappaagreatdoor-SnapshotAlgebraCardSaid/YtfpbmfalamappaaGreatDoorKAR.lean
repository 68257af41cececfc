/- Parts of the proof, joined. No condition. -/
import Derived.Test.YtfpbmfalamappaaGreatDoorKAA
import Derived.Test.YtfpbmfalamappaaGreatDoorKAQ
import Derived.Test.YtfpbmfalamappaaGreatDoorKAP
import Derived.Test.YtfpbmfalamappaaGreatDoorKAJ
import Derived.Lib.Bytealg
set_option linter.unusedSimpArgs false
set_option linter.unusedVariables false
namespace Go.Proofs.YtfpbmfalamappaaGreatDoor
open Go.RowKit Go.MapKept
set_option maxRecDepth 100000
set_option maxHeartbeats 8000000
def vg (a_op:Int):Option (Int × Int):=bif (decide (a_op=(1:Int))) then some ((0:Int),(0:Int)) else
 bif (decide (a_op=(2:Int))) then some ((0:Int),(0:Int)) else
 bif (decide (a_op=(4:Int))) then some ((1:Int),(1:Int)) else
 bif (decide (a_op=(18:Int))) then some ((1:Int),(1:Int)) else
 bif (decide (a_op=(20:Int))) then some ((1:Int),(1:Int)) else
 bif (decide (a_op=(21:Int))) then some ((1:Int),(1:Int)) else
 bif (decide (a_op=(5:Int))) then some ((2:Int),(1099511627776:Int)) else
 bif (decide (a_op=(6:Int))) then some ((2:Int),(1099511627776:Int)) else
 bif (decide (a_op=(7:Int))) then some ((2:Int),(2:Int)) else
 bif (decide (a_op=(8:Int))) then some ((2:Int),(2:Int)) else
 bif (decide (a_op=(9:Int))) then some ((2:Int),(2:Int)) else
 bif (decide (a_op=(10:Int))) then some ((2:Int),(2:Int)) else
 bif (decide (a_op=(11:Int))) then some ((2:Int),(2:Int)) else
 bif (decide (a_op=(12:Int))) then some ((2:Int),(2:Int)) else
 bif (decide (a_op=(13:Int))) then some ((2:Int),(2:Int)) else
 bif (decide (a_op=(14:Int))) then some ((2:Int),(2:Int)) else
 bif (decide (a_op=(15:Int))) then some ((2:Int),(2:Int)) else
 bif (decide (a_op=(16:Int))) then some ((2:Int),(2:Int)) else
 bif (decide (a_op=(17:Int))) then some ((2:Int),(2:Int)) else
 bif (decide (a_op=(19:Int))) then some ((2:Int),(2:Int)) else
 bif (decide (a_op=(22:Int))) then some ((3:Int),(3:Int)) else
 bif (decide (a_op=(23:Int))) then some ((1:Int),(1099511627776:Int)) else
 bif (decide (a_op=(24:Int))) then some ((4:Int),(4:Int)) else
 some ((-1:Int),(0:Int))
theorem IQ {a_op:Int} {r:Int × Int} (H:vg a_op=some r):Pure Tryz.prog 138 [.one (.int .i64 a_op)] (.tup [.one (.int .i64 r.1), .one (.int .i64 r.2)]):=by
 unfold vg at H
 refine po_ Tryz.func138 Tryz.ntmps138 ?_
 rcases cnd_ H with ⟨q_1,H⟩|⟨q_1,H⟩
 ·cases H
  exact go_
 rcases cnd_ H with ⟨q_2,H⟩|⟨q_2,H⟩
 ·cases H
  exact go_
 refine bC ?_
 rcases cnd_ H with ⟨q_3,H⟩|⟨q_3,H⟩
 ·cases H
  exact go_
 rcases cnd_ H with ⟨q_4,H⟩|⟨q_4,H⟩
 ·cases H
  exact go_
 rcases cnd_ H with ⟨q_5,H⟩|⟨q_5,H⟩
 ·cases H
  exact go_
 refine bC ?_
 rcases cnd_ H with ⟨q_6,H⟩|⟨q_6,H⟩
 ·cases H
  exact go_
 rcases cnd_ H with ⟨q_7,H⟩|⟨q_7,H⟩
 ·cases H
  exact go_
 rcases cnd_ H with ⟨q_8,H⟩|⟨q_8,H⟩
 ·cases H
  exact go_
 refine bC ?_
 rcases cnd_ H with ⟨q_9,H⟩|⟨q_9,H⟩
 ·cases H
  exact go_
 rcases cnd_ H with ⟨q_10,H⟩|⟨q_10,H⟩
 ·cases H
  exact go_
 rcases cnd_ H with ⟨q_11,H⟩|⟨q_11,H⟩
 ·cases H
  exact go_
 refine bC ?_
 rcases cnd_ H with ⟨q_12,H⟩|⟨q_12,H⟩
 ·cases H
  exact go_
 rcases cnd_ H with ⟨q_13,H⟩|⟨q_13,H⟩
 ·cases H
  exact go_
 rcases cnd_ H with ⟨q_14,H⟩|⟨q_14,H⟩
 ·cases H
  exact go_
 refine bC ?_
 rcases cnd_ H with ⟨q_15,H⟩|⟨q_15,H⟩
 ·cases H
  exact go_
 rcases cnd_ H with ⟨q_16,H⟩|⟨q_16,H⟩
 ·cases H
  exact go_
 rcases cnd_ H with ⟨q_17,H⟩|⟨q_17,H⟩
 ·cases H
  exact go_
 refine bC ?_
 rcases cnd_ H with ⟨q_18,H⟩|⟨q_18,H⟩
 ·cases H
  exact go_
 rcases cnd_ H with ⟨q_19,H⟩|⟨q_19,H⟩
 ·cases H
  exact go_
 rcases cnd_ H with ⟨q_20,H⟩|⟨q_20,H⟩
 ·cases H
  exact go_
 refine bC ?_
 rcases cnd_ H with ⟨q_21,H⟩|⟨q_21,H⟩
 ·cases H
  exact go_
 rcases cnd_ H with ⟨q_22,H⟩|⟨q_22,H⟩
 ·cases H
  exact go_
 rcases cnd_ H with ⟨q_23,H⟩|⟨q_23,H⟩
 ·cases H
  exact go_
 cases H
 exact go_
def kC (a_e:Ex):Option (Bool):=(vg a_e.op).bind fun r_1=>bif (decide (r_1.1<(0:Int))) then some false else
 bif (decide (((a_e.args.length:Nat):Int)<r_1.1)) then some false else
 bif (decide (r_1.2<((a_e.args.length:Nat):Int))) then some false else
 bif (!(a_e.nm.toList==(⟨#[]⟩:ByteArray).toList)) then some false else
 bif (decide (a_e.op=(1:Int))) then bif (decide (a_e.int=(0:Int))) then (dW a_e.v).bind fun r_8=>some r_8 else
 some false else
 bif (decide (a_e.op=(2:Int))) then (dJ ).bind fun r_10=>some (dS [.c (.int .i64 a_e.v.kind), .c (.int .i64 a_e.v.int), .c (.str a_e.v.text)] [.c (.int .i64 r_10.kind), .c (.int .i64 r_10.int), .c (.str r_10.text)]) else
 bif (decide (a_e.op=(24:Int))) then (dJ ).bind fun r_12=>bif (dS [.c (.int .i64 a_e.v.kind), .c (.int .i64 a_e.v.int), .c (.str a_e.v.text)] [.c (.int .i64 r_12.kind), .c (.int .i64 r_12.int), .c (.str r_12.text)]) then bif (decide ((0:Int)<=a_e.int)) then some (decide (a_e.int<(13:Int))) else
 some false else
 some false else
 bif (decide (a_e.int=(0:Int))) then (dJ ).bind fun r_16=>some (dS [.c (.int .i64 a_e.v.kind), .c (.int .i64 a_e.v.int), .c (.str a_e.v.text)] [.c (.int .i64 r_16.kind), .c (.int .i64 r_16.int), .c (.str r_16.text)]) else
 some false
theorem Du {a_e:Ex} {r:Bool} (H:kC a_e=some r):Pure Tryz.prog 139 [.agg (tE a_e)] (.val (.one (.bool r))):=by
 unfold kC at H
 rw [tE_eq a_e]
 refine po_ Tryz.func139 Tryz.ntmps139 ?_
 obtain ⟨r_1,c1,H⟩:=bd_ H
 replace c1:=IQ c1
 rcases cnd_ H with ⟨q_2,H⟩|⟨q_2,H⟩
 ·cases H
  exact go_
 rcases cnd_ H with ⟨q_3,H⟩|⟨q_3,H⟩
 ·cases H
  exact go_
 refine bC ?_
 rcases cnd_ H with ⟨q_4,H⟩|⟨q_4,H⟩
 ·cases H
  exact go_
 rcases cnd_ H with ⟨q_5,H⟩|⟨q_5,H⟩
 ·cases H
  exact go_
 rcases cnd_ H with ⟨q_6,H⟩|⟨q_6,H⟩
 ·refine bC ?_
  rcases cnd_ H with ⟨q_7,H⟩|⟨q_7,H⟩
  ·obtain ⟨r_8,c2,H⟩:=bd_ H
   replace c2:=oG c2
   cases H
   exact go_
  cases H
  exact go_
 refine bC ?_
 rcases cnd_ H with ⟨q_9,H⟩|⟨q_9,H⟩
 ·obtain ⟨r_10,c3,H⟩:=bd_ H
  replace c3:=bT c3
  cases H
  exact go_
 rcases cnd_ H with ⟨q_11,H⟩|⟨q_11,H⟩
 ·obtain ⟨r_12,c4,H⟩:=bd_ H
  replace c4:=bT c4
  rcases cnd_ H with ⟨q_13,H⟩|⟨q_13,H⟩
  ·refine bC ?_
   rcases cnd_ H with ⟨q_14,H⟩|⟨q_14,H⟩
   ·cases H
    exact go_
   cases H
   exact go_
  cases H
  exact go_
 rcases cnd_ H with ⟨q_15,H⟩|⟨q_15,H⟩
 ·obtain ⟨r_16,c5,H⟩:=bd_ H
  replace c5:=bT c5
  cases H
  exact go_
 cases H
 exact go_
set_option maxHeartbeats 8000000
def ib (a_op:Int) (a_a:Val) (a_b:Val):Option (Int):=bif (decide (a_op=(7:Int))) then (QY a_a a_b).bind fun r_2=>some r_2 else
 bif (decide (a_op=(8:Int))) then (QY a_a a_b).bind fun r_4=>(Ez r_4).bind fun r_5=>some r_5 else
 bif (decide (a_op=(9:Int))) then (wy a_a a_b).bind fun r_7=>some r_7 else
 bif (decide (a_op=(11:Int))) then (wy a_b a_a).bind fun r_9=>some r_9 else
 bif (decide (a_op=(10:Int))) then (wy a_b a_a).bind fun r_11=>(Ez r_11).bind fun r_12=>some r_12 else
 (wy a_a a_b).bind fun r_13=>(Ez r_13).bind fun r_14=>some r_14
theorem iW {a_op:Int} {a_a:Val} {a_b:Val} {r:Int} (H:ib a_op a_a a_b=some r):Pure Tryz.prog 146 [.one (.int .i64 a_op), .agg (cV a_a), .agg (cV a_b)] (.val (.one (.int .i64 r))):=by
 unfold ib at H
 refine po_ Tryz.func146 Tryz.ntmps146 ?_
 rcases cnd_ H with ⟨q_1,H⟩|⟨q_1,H⟩
 ·obtain ⟨r_2,c1,H⟩:=bd_ H
  replace c1:=Pz c1
  cases H
  exact go_
 rcases cnd_ H with ⟨q_3,H⟩|⟨q_3,H⟩
 ·obtain ⟨r_4,c2,H⟩:=bd_ H
  replace c2:=Pz c2
  obtain ⟨r_5,c3,H⟩:=bd_ H
  replace c3:=zI c3
  cases H
  exact go_
 refine bC ?_
 rcases cnd_ H with ⟨q_6,H⟩|⟨q_6,H⟩
 ·obtain ⟨r_7,c4,H⟩:=bd_ H
  replace c4:=wY c4
  cases H
  exact go_
 rcases cnd_ H with ⟨q_8,H⟩|⟨q_8,H⟩
 ·obtain ⟨r_9,c5,H⟩:=bd_ H
  replace c5:=wY c5
  cases H
  exact go_
 rcases cnd_ H with ⟨q_10,H⟩|⟨q_10,H⟩
 ·obtain ⟨r_11,c6,H⟩:=bd_ H
  replace c6:=wY c6
  obtain ⟨r_12,c7,H⟩:=bd_ H
  replace c7:=zI c7
  cases H
  exact go_
 obtain ⟨r_13,c8,H⟩:=bd_ H
 replace c8:=wY c8
 obtain ⟨r_14,c9,H⟩:=bd_ H
 replace c9:=zI c9
 cases H
 exact go_
def RL (a_n:Int):Option (Int):=some (SE a_n (IntKind.i64.wrap (0-a_n)))
theorem Qt {a_n:Int} {r:Int} (H:RL a_n=some r):Pure Tryz.prog 186 [.one (.int .i64 a_n)] (.val (.one (.int .i64 r))):=by
 unfold RL at H
 refine po_ Tryz.func186 Tryz.ntmps186 ?_
 cases H
 exact go_
def dM (a_op:Int) (a_a:Int) (a_b:Int):Option (Val):=bif (decide (a_op=(13:Int))) then (lM (IntKind.i64.wrap (a_a+a_b))).bind fun r_2=>some r_2 else
 bif (decide (a_op=(14:Int))) then (lM (IntKind.i64.wrap (a_a-a_b))).bind fun r_4=>some r_4 else
 bif (decide (a_op=(15:Int))) then bif (decide (a_a≠(0:Int))) then (RL a_b).bind fun r_7=>(RL a_a).bind fun r_8=>bif (decide (r_8≠0)) then (bif (decide ((IntKind.i64.wrap ((1125899906842624:Int).tdiv r_8))<r_7)) then (dJ ).bind fun r_10=>some r_10 else
 (lM (IntKind.i64.wrap (a_a*a_b))).bind fun r_11=>some r_11) else none else
 (lM (IntKind.i64.wrap (a_a*a_b))).bind fun r_12=>some r_12 else
 bif (decide (a_b=(0:Int))) then (dJ ).bind fun r_14=>some r_14 else
 bif (decide (a_op=(16:Int))) then bif (decide (a_b≠0)) then ((lM (IntKind.i64.wrap (a_a.tdiv a_b))).bind fun r_16=>some r_16) else none else
 bif (decide (a_b≠0)) then ((lM (a_a.tmod a_b)).bind fun r_17=>some r_17) else none
theorem K3 {a_op:Int} {a_a:Int} {a_b:Int} {r:Val} (H:dM a_op a_a a_b=some r):Pure Tryz.prog 151 [.one (.int .i64 a_op), .one (.int .i64 a_a), .one (.int .i64 a_b)] (.val (.agg (cV r))):=by
 unfold dM at H
 refine po_ Tryz.func151 Tryz.ntmps151 ?_
 rcases cnd_ H with ⟨q_1,H⟩|⟨q_1,H⟩
 ·obtain ⟨r_2,c1,H⟩:=bd_ H
  replace c1:=iK c1
  cases H
  exact go_
 rcases cnd_ H with ⟨q_3,H⟩|⟨q_3,H⟩
 ·obtain ⟨r_4,c2,H⟩:=bd_ H
  replace c2:=iK c2
  cases H
  exact go_
 refine bC ?_
 rcases cnd_ H with ⟨q_5,H⟩|⟨q_5,H⟩
 ·rcases cnd_ H with ⟨q_6,H⟩|⟨q_6,H⟩
  ·obtain ⟨r_7,c3,H⟩:=bd_ H
   replace c3:=Qt c3
   obtain ⟨r_8,c4,H⟩:=bd_ H
   replace c4:=Qt c4
   obtain ⟨g5,H⟩:=aK H
   rcases cnd_ H with ⟨q_9,H⟩|⟨q_9,H⟩
   ·obtain ⟨r_10,c6,H⟩:=bd_ H
    replace c6:=bT c6
    cases H
    exact go_
   obtain ⟨r_11,c7,H⟩:=bd_ H
   replace c7:=iK c7
   cases H
   exact go_
  obtain ⟨r_12,c8,H⟩:=bd_ H
  replace c8:=iK c8
  cases H
  exact go_
 rcases cnd_ H with ⟨q_13,H⟩|⟨q_13,H⟩
 ·obtain ⟨r_14,c9,H⟩:=bd_ H
  replace c9:=bT c9
  cases H
  exact go_
 rcases cnd_ H with ⟨q_15,H⟩|⟨q_15,H⟩
 ·obtain ⟨g10,H⟩:=aK H
  obtain ⟨r_16,c11,H⟩:=bd_ H
  replace c11:=iK c11
  cases H
  exact go_
 obtain ⟨g12,H⟩:=aK H
 obtain ⟨r_17,c13,H⟩:=bd_ H
 replace c13:=iK c13
 cases H
 exact go_
def D5 (a_l:(List Val)) (a_kind:Int):(Int)->Option (Step (Int) (Bool)):=fun s=>match s with
 | i_1=>bif (decide (i_1<((a_l.length:Nat):Int))) then (aL a_l i_1).bind fun x_3=>bif (decide (x_3.kind≠a_kind)) then some (.ret false) else
 some (.next (IntKind.i64.wrap (i_1+(1:Int)))) else
 some (.exit i_1)
def Ah:Sum (Int) (Bool)->Option ((Bool))
 | .inl i_1=>some true
 | .inr q=>some q
def L8 (a_l:(List Val)) (a_kind:Int):Option (Bool):=(ax (D5 a_l a_kind) fuel (0:Int)).bind (Ah)
theorem DW {a_l:(List Val)} {a_kind:Int} {r:Bool} (H:L8 a_l a_kind=some r):Pure Tryz.prog 147 [.one (.lst (a_l.map cV)), .one (.int .i64 a_kind)] (.val (.one (.bool r))):=by
 unfold L8 at H
 refine po_ Tryz.func147 Tryz.ntmps147 ?_
 refine bC ?_
 refine alM_ (fun s:Int=>match s with|i_1=>[(0, .one (.c (.lst (a_l.map cV)))),(1, .one (.c (.int .i64 a_kind))),(5, .one (.c (.int .i64 i_1)))]) (fun s=>match s with|i_1=>[]) H (fun _=>abv _)
  (fm_ bV [] rfl bE trivial) ?_
 rintro i_1 st1 hb1 hk1
 unfold D5 at hb1
 dsimp only at hb1 ⊢
 rcases cnd_ hb1 with ⟨q_2,hb1⟩|⟨q_2,hb1⟩
 ·obtain ⟨x_3,i1z,i1,i1x,hb1⟩:=aX (f:=cV) hb1
  rcases cnd_ hb1 with ⟨q_4,hb1⟩|⟨q_4,hb1⟩
  ·cases hb1
   have hx1:Ah (.inr false)=some _:=hk1
   unfold Ah at hx1
   dsimp only at hx1
   cases hx1
   exact go_
  cases hb1
  refine bC ?_
  exact ⟨_,rfl,fm_ bV [] rfl bE trivial⟩
 cases hb1
 have hx1:Ah (.inl i_1)=some _:=hk1
 unfold Ah at hx1
 dsimp only at hx1
 cases hx1
 exact go_
def nQ (a_op:Int) (a_l:(List Val)):(Int × Int)->Option (Step (Int × Int) (Val)):=fun s=>match s with
 | (t_3,i_4)=>bif (decide (i_4<((a_l.length:Nat):Int))) then bif (decide (a_op=(5:Int))) then (aL a_l i_4).bind fun x_7=>(iq x_7).bind fun r_8=>(Gl t_3 r_8).bind fun r_9=>some (.next (r_9,(IntKind.i64.wrap (i_4+(1:Int))))) else
 (aL a_l i_4).bind fun x_10=>(iq x_10).bind fun r_11=>(NU t_3 r_11).bind fun r_12=>some (.next (r_12,(IntKind.i64.wrap (i_4+(1:Int))))) else
 some (.exit (t_3,i_4))
def yQ:Sum (Int × Int) (Val)->Option ((Val))
 | .inl (t_3,i_4)=>(DC t_3).bind fun r_13=>some r_13
 | .inr q=>some q
def wR (a_op:Int) (a_l:(List Val)):Option (Val):=(aL a_l (0:Int)).bind fun x_1=>(iq x_1).bind fun r_2=>(ax (nQ a_op a_l) fuel (r_2,(1:Int))).bind (yQ)
theorem ET {a_op:Int} {a_l:(List Val)} {r:Val} (H:wR a_op a_l=some r):Pure Tryz.prog 145 [.one (.int .i64 a_op), .one (.lst (a_l.map cV))] (.val (.agg (cV r))):=by
 unfold wR at H
 refine po_ Tryz.func145 Tryz.ntmps145 ?_
 obtain ⟨x_1,i1z,i1,i1x,H⟩:=aX (f:=cV) H
 obtain ⟨r_2,c2,H⟩:=bd_ H
 replace c2:=lw c2
 refine bC ?_
 refine alM_ (fun s:Int × Int=>match s with|(t_3,i_4)=>[(0, .one (.c (.int .i64 a_op))),(1, .one (.c (.lst (a_l.map cV)))),(4, .one (.ptr 0 0)),(5, .one (.c (.int .i64 t_3))),(6, .one (.c (.int .i64 i_4)))]) (fun s=>match s with|(t_3,i_4)=>[.box [.c (.int .i64 (0:Int)), .c (.int .i64 (0:Int)), .c (.str ByteArray.empty)]]) H (fun _=>abv _)
  (fm_ bV [] rfl bE dw) ?_
 rintro ⟨t_3,i_4⟩ st1 hb1 hk1
 unfold nQ at hb1
 dsimp only at hb1 ⊢
 rcases cnd_ hb1 with ⟨q_5,hb1⟩|⟨q_5,hb1⟩
 ·rcases cnd_ hb1 with ⟨q_6,hb1⟩|⟨q_6,hb1⟩
  ·obtain ⟨x_7,i3z,i3,i3x,hb1⟩:=aX (f:=cV) hb1
   obtain ⟨r_8,c4,hb1⟩:=bd_ hb1
   replace c4:=lw c4
   obtain ⟨r_9,c5,hb1⟩:=bd_ hb1
   replace c5:=Ud c5
   cases hb1
   refine bC ?_
   exact ⟨_,rfl,fm_ bV [] rfl bE dw⟩
  obtain ⟨x_10,i6z,i6,i6x,hb1⟩:=aX (f:=cV) hb1
  obtain ⟨r_11,c7,hb1⟩:=bd_ hb1
  replace c7:=lw c7
  obtain ⟨r_12,c8,hb1⟩:=bd_ hb1
  replace c8:=WI c8
  cases hb1
  refine bC ?_
  exact ⟨_,rfl,fm_ bV [] rfl bE dw⟩
 cases hb1
 have hx1:yQ (.inl (t_3,i_4))=some _:=hk1
 unfold yQ at hx1
 dsimp only at hx1
 obtain ⟨r_13,c9,hx1⟩:=bd_ hx1
 replace c9:=pQ c9
 cases hx1
 exact go_
set_option maxHeartbeats 8000000
def jd (a_rel:Int) (a_p:iQ) (a_q:iQ):Option (Bool):=bif (decide (a_rel=(0:Int))) then some (decide (a_p.hi<a_q.lo)) else
 bif (decide (a_rel=(1:Int))) then some (decide (a_p.hi=a_q.lo)) else
 bif (decide (a_rel=(2:Int))) then bif (decide (a_p.lo<a_q.lo)) then bif (decide (a_q.lo<a_p.hi)) then some (decide (a_p.hi<a_q.hi)) else
 some false else
 some false else
 bif (decide (a_rel=(3:Int))) then bif (decide (a_p.lo=a_q.lo)) then some (decide (a_p.hi<a_q.hi)) else
 some false else
 bif (decide (a_rel=(4:Int))) then bif (decide (a_q.lo<a_p.lo)) then some (decide (a_p.hi<a_q.hi)) else
 some false else
 bif (decide (a_rel=(5:Int))) then bif (decide (a_p.hi=a_q.hi)) then some (decide (a_q.lo<a_p.lo)) else
 some false else
 bif (decide (a_rel=(6:Int))) then some (dS [.c (.int .i64 a_p.lo), .c (.int .i64 a_p.hi)] [.c (.int .i64 a_q.lo), .c (.int .i64 a_q.hi)]) else
 bif (decide (a_rel=(7:Int))) then bif (decide (a_p.hi=a_q.hi)) then some (decide (a_p.lo<a_q.lo)) else
 some false else
 bif (decide (a_rel=(8:Int))) then bif (decide (a_p.lo<a_q.lo)) then some (decide (a_q.hi<a_p.hi)) else
 some false else
 bif (decide (a_rel=(9:Int))) then bif (decide (a_p.lo=a_q.lo)) then some (decide (a_q.hi<a_p.hi)) else
 some false else
 bif (decide (a_rel=(10:Int))) then bif (decide (a_q.lo<a_p.lo)) then bif (decide (a_p.lo<a_q.hi)) then some (decide (a_q.hi<a_p.hi)) else
 some false else
 some false else
 bif (decide (a_rel=(11:Int))) then some (decide (a_q.hi=a_p.lo)) else
 bif (decide (a_rel=(12:Int))) then some (decide (a_q.hi<a_p.lo)) else
 some false
theorem WJ {a_rel:Int} {a_p:iQ} {a_q:iQ} {r:Bool} (H:jd a_rel a_p a_q=some r):Pure Tryz.prog 211 [.one (.int .i64 a_rel), .agg (yK a_p), .agg (yK a_q)] (.val (.one (.bool r))):=by
 unfold jd at H
 refine po_ Tryz.func211 Tryz.ntmps211 ?_
 rcases cnd_ H with ⟨q_1,H⟩|⟨q_1,H⟩
 ·cases H
  exact go_
 rcases cnd_ H with ⟨q_2,H⟩|⟨q_2,H⟩
 ·cases H
  exact go_
 refine bC ?_
 rcases cnd_ H with ⟨q_3,H⟩|⟨q_3,H⟩
 ·rcases cnd_ H with ⟨q_4,H⟩|⟨q_4,H⟩
  ·rcases cnd_ H with ⟨q_5,H⟩|⟨q_5,H⟩
   ·cases H
    exact go_
   cases H
   exact go_
  cases H
  exact go_
 rcases cnd_ H with ⟨q_6,H⟩|⟨q_6,H⟩
 ·rcases cnd_ H with ⟨q_7,H⟩|⟨q_7,H⟩
  ·cases H
   exact go_
  cases H
  exact go_
 rcases cnd_ H with ⟨q_8,H⟩|⟨q_8,H⟩
 ·refine bC ?_
  rcases cnd_ H with ⟨q_9,H⟩|⟨q_9,H⟩
  ·cases H
   exact go_
  cases H
  exact go_
 refine bC ?_
 rcases cnd_ H with ⟨q_10,H⟩|⟨q_10,H⟩
 ·rcases cnd_ H with ⟨q_11,H⟩|⟨q_11,H⟩
  ·cases H
   exact go_
  cases H
  exact go_
 rcases cnd_ H with ⟨q_12,H⟩|⟨q_12,H⟩
 ·cases H
  exact go_
 rcases cnd_ H with ⟨q_13,H⟩|⟨q_13,H⟩
 ·refine bC ?_
  rcases cnd_ H with ⟨q_14,H⟩|⟨q_14,H⟩
  ·cases H
   exact go_
  cases H
  exact go_
 refine bC ?_
 rcases cnd_ H with ⟨q_15,H⟩|⟨q_15,H⟩
 ·rcases cnd_ H with ⟨q_16,H⟩|⟨q_16,H⟩
  ·cases H
   exact go_
  cases H
  exact go_
 rcases cnd_ H with ⟨q_17,H⟩|⟨q_17,H⟩
 ·rcases cnd_ H with ⟨q_18,H⟩|⟨q_18,H⟩
  ·cases H
   exact go_
  cases H
  exact go_
 rcases cnd_ H with ⟨q_19,H⟩|⟨q_19,H⟩
 ·refine bC ?_
  rcases cnd_ H with ⟨q_20,H⟩|⟨q_20,H⟩
  ·rcases cnd_ H with ⟨q_21,H⟩|⟨q_21,H⟩
   ·cases H
    exact go_
   cases H
   exact go_
  cases H
  exact go_
 refine bC ?_
 rcases cnd_ H with ⟨q_22,H⟩|⟨q_22,H⟩
 ·cases H
  exact go_
 rcases cnd_ H with ⟨q_23,H⟩|⟨q_23,H⟩
 ·cases H
  exact go_
 cases H
 exact go_
def Ap (a_rel:Int) (a_p:iQ) (a_q:iQ):Option (Bool):=(xK a_p).bind fun r_1=>bif r_1 then (xK a_q).bind fun r_3=>bif r_3 then (jd a_rel a_p a_q).bind fun r_5=>some r_5 else
 some false else
 some false
theorem O_ {a_rel:Int} {a_p:iQ} {a_q:iQ} {r:Bool} (H:Ap a_rel a_p a_q=some r):Pure Tryz.prog 200 [.one (.int .i64 a_rel), .agg (yK a_p), .agg (yK a_q)] (.val (.one (.bool r))):=by
 unfold Ap at H
 refine po_ Tryz.func200 Tryz.ntmps200 ?_
 obtain ⟨r_1,c1,H⟩:=bd_ H
 replace c1:=EC c1
 rcases cnd_ H with ⟨q_2,H⟩|⟨q_2,H⟩
 ·obtain ⟨r_3,c2,H⟩:=bd_ H
  replace c2:=EC c2
  rcases cnd_ H with ⟨q_4,H⟩|⟨q_4,H⟩
  ·obtain ⟨r_5,c3,H⟩:=bd_ H
   replace c3:=WJ c3
   cases H
   exact go_
  cases H
  exact go_
 cases H
 exact go_
def rM (a_p:iQ) (a_q:iQ):(Int)->Option (Step (Int) (Int × Bool)):=fun s=>match s with
 | rel_1=>bif (decide (rel_1<(13:Int))) then (Ap rel_1 a_p a_q).bind fun r_3=>bif r_3 then some (.ret (rel_1,true)) else
 some (.next (IntKind.i64.wrap (rel_1+(1:Int)))) else
 some (.exit rel_1)
def vI:Sum (Int) (Int × Bool)->Option ((Int × Bool))
 | .inl rel_1=>some ((0:Int),false)
 | .inr q=>some q
def NH (a_p:iQ) (a_q:iQ):Option (Int × Bool):=(ax (rM a_p a_q) fuel (0:Int)).bind (vI)
theorem Uc {a_p:iQ} {a_q:iQ} {r:Int × Bool} (H:NH a_p a_q=some r):Pure Tryz.prog 185 [.agg (yK a_p), .agg (yK a_q)] (.tup [.one (.int .i64 r.1), .one (.bool r.2)]):=by
 unfold NH at H
 refine po_ Tryz.func185 Tryz.ntmps185 ?_
 refine bC ?_
 refine alM_ (fun s:Int=>match s with|rel_1=>[(2, .one (.ptr 0 0)),(3, .one (.ptr 1 0)),(6, .one (.c (.int .i64 rel_1)))]) (fun s=>match s with|rel_1=>[.box [.c (.int .i64 a_p.lo), .c (.int .i64 a_p.hi)], .box [.c (.int .i64 a_q.lo), .c (.int .i64 a_q.hi)]]) H (fun _=>abv _)
  (fm_ bV [] rfl bE dw) ?_
 rintro rel_1 st1 hb1 hk1
 unfold rM at hb1
 dsimp only at hb1 ⊢
 rcases cnd_ hb1 with ⟨q_2,hb1⟩|⟨q_2,hb1⟩
 ·obtain ⟨r_3,c1,hb1⟩:=bd_ hb1
  replace c1:=O_ c1
  rcases cnd_ hb1 with ⟨q_4,hb1⟩|⟨q_4,hb1⟩
  ·cases hb1
   have hx1:vI (.inr (rel_1,true))=some _:=hk1
   unfold vI at hx1
   dsimp only at hx1
   cases hx1
   exact go_
  cases hb1
  refine bC ?_
  exact ⟨_,rfl,fm_ bV [] rfl bE dw⟩
 cases hb1
 have hx1:vI (.inl rel_1)=some _:=hk1
 unfold vI at hx1
 dsimp only at hx1
 cases hx1
 exact go_
set_option maxHeartbeats 8000000
def qQ (a_rel:Int) (a_l:(List Val)):Option (Val):=(L8 a_l (1:Int)).bind fun r_1=>bif (!r_1) then (dJ ).bind fun r_3=>some r_3 else
 (aL a_l (0:Int)).bind fun x_4=>(aL a_l (1:Int)).bind fun x_5=>(aL a_l (2:Int)).bind fun x_6=>(aL a_l (3:Int)).bind fun x_7=>(NH (⟨x_4.int,x_5.int⟩:iQ) (⟨x_6.int,x_7.int⟩:iQ)).bind fun r_8=>bif (!r_8.2) then (dJ ).bind fun r_10=>some r_10 else
 (uq (decide (r_8.1=a_rel))).bind fun r_11=>some r_11
theorem KA {a_rel:Int} {a_l:(List Val)} {r:Val} (H:qQ a_rel a_l=some r):Pure Tryz.prog 150 [.one (.int .i64 a_rel), .one (.lst (a_l.map cV))] (.val (.agg (cV r))):=by
 unfold qQ at H
 refine po_ Tryz.func150 Tryz.ntmps150 ?_
 obtain ⟨r_1,c1,H⟩:=bd_ H
 replace c1:=DW c1
 rcases cnd_ H with ⟨q_2,H⟩|⟨q_2,H⟩
 ·obtain ⟨r_3,c2,H⟩:=bd_ H
  replace c2:=bT c2
  cases H
  exact go_
 obtain ⟨x_4,i3z,i3,i3x,H⟩:=aX (f:=cV) H
 obtain ⟨x_5,i4z,i4,i4x,H⟩:=aX (f:=cV) H
 obtain ⟨x_6,i5z,i5,i5x,H⟩:=aX (f:=cV) H
 obtain ⟨x_7,i6z,i6,i6x,H⟩:=aX (f:=cV) H
 obtain ⟨r_8,c7,H⟩:=bd_ H
 replace c7:=Uc c7
 rcases cnd_ H with ⟨q_9,H⟩|⟨q_9,H⟩
 ·obtain ⟨r_10,c8,H⟩:=bd_ H
  replace c8:=bT c8
  cases H
  exact go_
 obtain ⟨r_11,c9,H⟩:=bd_ H
 replace c9:=nD c9
 cases H
 exact go_
def uW (a_op:Int) (a_l:(List Val)):Option (Val):=(L8 a_l (2:Int)).bind fun r_1=>bif (!r_1) then (dJ ).bind fun r_3=>some r_3 else
 bif (decide (a_op=(19:Int))) then (aL a_l (0:Int)).bind fun x_5=>(aL a_l (1:Int)).bind fun x_6=>bif (decide (x_5.text.size+x_6.text.size<=9223372036854775807)) then ((EM (x_5.text++x_6.text)).bind fun r_7=>some r_7) else none else
 (aL a_l (0:Int)).bind fun x_8=>(lM ((x_8.text.size:Nat):Int)).bind fun r_9=>some r_9
theorem IM {a_op:Int} {a_l:(List Val)} {r:Val} (H:uW a_op a_l=some r):Pure Tryz.prog 148 [.one (.int .i64 a_op), .one (.lst (a_l.map cV))] (.val (.agg (cV r))):=by
 unfold uW at H
 refine po_ Tryz.func148 Tryz.ntmps148 ?_
 obtain ⟨r_1,c1,H⟩:=bd_ H
 replace c1:=DW c1
 rcases cnd_ H with ⟨q_2,H⟩|⟨q_2,H⟩
 ·obtain ⟨r_3,c2,H⟩:=bd_ H
  replace c2:=bT c2
  cases H
  exact go_
 rcases cnd_ H with ⟨q_4,H⟩|⟨q_4,H⟩
 ·obtain ⟨x_5,i3z,i3,i3x,H⟩:=aX (f:=cV) H
  obtain ⟨x_6,i4z,i4,i4x,H⟩:=aX (f:=cV) H
  obtain ⟨g5,H⟩:=aK H
  obtain ⟨r_7,c6,H⟩:=bd_ H
  replace c6:=Q6 c6
  try simp only [abm,abk,abo,abd,tE_eq,tP_eq] at c6
  cases H
  exact go_
 obtain ⟨x_8,i7z,i7,i7x,H⟩:=aX (f:=cV) H
 obtain ⟨r_9,c8,H⟩:=bd_ H
 replace c8:=iK c8
 cases H
 exact go_
def sQ (a_l:(List Val)):(Int)->Option (Step (Int) (Val)):=fun s=>match s with
 | i_7=>bif (decide (i_7<((a_l.length:Nat):Int))) then (aL a_l i_7).bind fun x_9=>bif (decide (x_9.kind≠(0:Int))) then some (.ret x_9) else
 some (.next (IntKind.i64.wrap (i_7+(1:Int)))) else
 some (.exit i_7)
def nR:Sum (Int) (Val)->Option ((Val))
 | .inl i_7=>(dJ ).bind fun r_11=>some r_11
 | .inr q=>some q
def tF (a_op:Int) (a_l:(List Val)):Option (Val):=bif (decide (a_op=(22:Int))) then (aL a_l (0:Int)).bind fun x_2=>(iq x_2).bind fun r_3=>bif (decide (r_3=(2:Int))) then (aL a_l (1:Int)).bind fun x_5=>some x_5 else
 (aL a_l (2:Int)).bind fun x_6=>some x_6 else
 (ax (sQ a_l) fuel (0:Int)).bind (nR)
theorem GX {a_op:Int} {a_l:(List Val)} {r:Val} (H:tF a_op a_l=some r):Pure Tryz.prog 149 [.one (.int .i64 a_op), .one (.lst (a_l.map cV))] (.val (.agg (cV r))):=by
 unfold tF at H
 refine po_ Tryz.func149 Tryz.ntmps149 ?_
 rcases cnd_ H with ⟨q_1,H⟩|⟨q_1,H⟩
 ·obtain ⟨x_2,i1z,i1,i1x,H⟩:=aX (f:=cV) H
  obtain ⟨r_3,c2,H⟩:=bd_ H
  replace c2:=lw c2
  rcases cnd_ H with ⟨q_4,H⟩|⟨q_4,H⟩
  ·obtain ⟨x_5,i3z,i3,i3x,H⟩:=aX (f:=cV) H
   cases H
   exact go_
  obtain ⟨x_6,i4z,i4,i4x,H⟩:=aX (f:=cV) H
  cases H
  exact go_
 refine bC ?_
 refine alM_ (fun s:Int=>match s with|i_7=>[(1, .one (.c (.lst (a_l.map cV)))),(4, .one (.ptr 0 0)),(5, .one (.c (.int .i64 i_7)))]) (fun s=>match s with|i_7=>[.box [.c (.int .i64 (0:Int)), .c (.int .i64 (0:Int)), .c (.str ByteArray.empty)]]) H (fun _=>abv _)
  (fm_ bV [] rfl bE dw) ?_
 rintro i_7 st1 hb1 hk1
 unfold sQ at hb1
 dsimp only at hb1 ⊢
 rcases cnd_ hb1 with ⟨q_8,hb1⟩|⟨q_8,hb1⟩
 ·obtain ⟨x_9,i5z,i5,i5x,hb1⟩:=aX (f:=cV) hb1
  rcases cnd_ hb1 with ⟨q_10,hb1⟩|⟨q_10,hb1⟩
  ·cases hb1
   have hx1:nR (.inr x_9)=some _:=hk1
   unfold nR at hx1
   dsimp only at hx1
   cases hx1
   exact go_
  cases hb1
  refine bC ?_
  exact ⟨_,rfl,fm_ bV [] rfl bE dw⟩
 cases hb1
 have hx1:nR (.inl i_7)=some _:=hk1
 unfold nR at hx1
 dsimp only at hx1
 obtain ⟨r_11,c6,hx1⟩:=bd_ hx1
 replace c6:=bT c6
 cases hx1
 exact go_
def Dt (a_e:Ex) (a_row:(List Val)):Option (Val):=bif (decide (a_e.op=(2:Int))) then (ME a_row a_e.int).bind fun r_2=>(dW r_2).bind fun r_3=>bif (!r_3) then (dJ ).bind fun r_5=>some r_5 else
 some r_2 else
 (dW a_e.v).bind fun r_6=>bif (!r_6) then (dJ ).bind fun r_8=>some r_8 else
 some a_e.v
theorem MI {a_e:Ex} {a_row:(List Val)} {r:Val} (H:Dt a_e a_row=some r):Pure Tryz.prog 142 [.agg (tE a_e), .one (.lst (a_row.map cV))] (.val (.agg (cV r))):=by
 unfold Dt at H
 rw [tE_eq a_e]
 refine po_ Tryz.func142 Tryz.ntmps142 ?_
 rcases cnd_ H with ⟨q_1,H⟩|⟨q_1,H⟩
 ·obtain ⟨r_2,c1,H⟩:=bd_ H
  replace c1:=DN c1
  obtain ⟨r_3,c2,H⟩:=bd_ H
  replace c2:=oG c2
  rcases cnd_ H with ⟨q_4,H⟩|⟨q_4,H⟩
  ·obtain ⟨r_5,c3,H⟩:=bd_ H
   replace c3:=bT c3
   cases H
   exact go_
  cases H
  exact go_
 obtain ⟨r_6,c4,H⟩:=bd_ H
 replace c4:=oG c4
 rcases cnd_ H with ⟨q_7,H⟩|⟨q_7,H⟩
 ·obtain ⟨r_8,c5,H⟩:=bd_ H
  replace c5:=bT c5
  cases H
  exact go_
 cases H
 exact go_
set_option maxHeartbeats 8000000
set_option maxHeartbeats 8000000
def sG (rec:List (List Val)->List Ic->Option (List (List Val))) (a_l:(List (List Val))) (a_o:(List Ic)):Option ((List (List Val))):=bif (decide (((a_l.length:Nat):Int)=(0:Int))) then some [] else
 bif (decide (((a_l.length:Nat):Int)=(1:Int))) then (aL a_l (0:Int)).bind fun x_3=>bif (decide (x_3.length<=4398046511104)) then (some [x_3]) else none else
 bif (decide ((2:Int)≠0)) then ((jE a_l (0:Int) (IntKind.i64.wrap (((a_l.length:Nat):Int).tdiv (2:Int)))).bind fun s_4=>(rec s_4 a_o).bind fun r_5=>(jE a_l (IntKind.i64.wrap (((a_l.length:Nat):Int).tdiv (2:Int))) ((a_l.length:Nat):Int)).bind fun s_6=>(rec s_6 a_o).bind fun r_7=>(AL r_5 r_7 a_o).bind fun r_8=>some r_8) else none
theorem Oi {rec:List (List Val)->List Ic->Option (List (List Val))}  (hrec : ∀ {x:List (List Val)} {y:List Ic} {r:List (List Val)}, rec x y=some r->Pure Tryz.prog 100 [.one (.lst (x.map (fun x=>[AC.lst (x.map cV)]))), .one (.lst (y.map E8))] (.val (.one (.lst (r.map (fun x=>[AC.lst (x.map cV)])))))) {a_l:(List (List Val))} {a_o:(List Ic)} {r:(List (List Val))} (H:sG rec a_l a_o=some r):Pure Tryz.prog 100 [.one (.lst (a_l.map (fun x=>[AC.lst (x.map cV)]))), .one (.lst (a_o.map E8))] (.val (.one (.lst (r.map (fun x=>[AC.lst (x.map cV)]))))):=by
 unfold sG at H
 refine po_ Tryz.func100 Tryz.ntmps100 ?_
 rcases cnd_ H with ⟨q_1,H⟩|⟨q_1,H⟩
 ·cases H
  exact go_
 rcases cnd_ H with ⟨q_2,H⟩|⟨q_2,H⟩
 ·obtain ⟨x_3,i1z,i1,i1x,H⟩:=aX (f:=(fun x=>[AC.lst (x.map cV)])) H
  obtain ⟨g2,H⟩:=aK H
  cases H
  exact go_
 obtain ⟨g3,H⟩:=aK H
 obtain ⟨s_4,u4,H⟩:=bd_ H
 obtain ⟨⟨u4a,u4b,u4c⟩,u4⟩:=eO u4
 have u4x:=DD (f:=(fun x=>[AC.lst (x.map cV)])) u4
 obtain ⟨r_5,c5,H⟩:=bd_ H
 replace c5:=hrec c5
 obtain ⟨s_6,u6,H⟩:=bd_ H
 obtain ⟨⟨u6a,u6b,u6c⟩,u6⟩:=eO u6
 have u6x:=DD (f:=(fun x=>[AC.lst (x.map cV)])) u6
 obtain ⟨r_7,c7,H⟩:=bd_ H
 replace c7:=hrec c7
 obtain ⟨r_8,c8,H⟩:=bd_ H
 replace c8:=NR c8
 cases H
 repeat' (first|refine gs_ ?_|rw [u4x]|rw [u6x]|rw [show ((0:Nat):Int)=0 from rfl])
 refine aO (aR rfl ?_ ?_)
 ·repeat' (first|exact trivial|rfl|exact abj rfl|omega|apply And.intro)
 ·first|rfl|(simp only [abm,abk,abo,abd]<;>rfl)
def Be:Nat->List (List Val)->List Ic->Option (List (List Val))
 | 0,_,_=>none
 | n+1,a,b=>sG (Be n) a b
theorem JB : ∀ (n:Nat) {x:List (List Val)} {y:List Ic} {r:List (List Val)}, Be n x y=some r->Pure Tryz.prog 100 [.one (.lst (x.map (fun x=>[AC.lst (x.map cV)]))), .one (.lst (y.map E8))] (.val (.one (.lst (r.map (fun x=>[AC.lst (x.map cV)])))))
 | 0,_,_,_,h=>nomatch h
 | n+1,_,_,_,h=>Oi (JB n) h
def ku (a_l:(List (List Val))):Option ((List (List Val))):=(Be 301 a_l ([]:(List Ic))).bind fun r_1=>some r_1
theorem fH {a_l:(List (List Val))} {r:(List (List Val))} (H:ku a_l=some r):Pure Tryz.prog 62 [.one (.lst (a_l.map (fun x=>[AC.lst (x.map cV)])))] (.val (.one (.lst (r.map (fun x=>[AC.lst (x.map cV)]))))):=by
 unfold ku at H
 refine po_ Tryz.func62 Tryz.ntmps62 ?_
 obtain ⟨r_1,c1,H⟩:=bd_ H
 replace c1:=JB 301 c1
 try simp only [abm,abk,abo,abd,tE_eq,tP_eq] at c1
 cases H
 exact go_
structure Dz {α:Type} (c:α->α->Int):Prop where
 refl : ∀ a,c a a=0
 zero : ∀ a b,c a b=0->a=b
 anti : ∀ a b,c a b<0↔0<c b a
 trans : ∀ a b d,c a b<0->c b d<0->c a d<0
theorem tCi_:Dz jI:=by
 refine ⟨fun a=>by simp [jI],fun a b h=>?_,fun a b=>?_,fun a b d h1 h2=>?_⟩
 ·unfold jI at h;split at h
  ·omega
  ·split at h<;>omega
 ·unfold jI;split<;>split<;>(try split)<;>omega
 ·unfold jI at *
  split at h1
  ·split at h2
   ·rw [if_pos (by omega)];omega
   ·split at h2<;>omega
  ·split at h1<;>omega
def o_ {α:Type} (c:α->α->Int):List α->List α->Int
 | [],[]=>0
 | [],_::_ => -1
 | _::_,[]=>1
 | a::xs,b::ys=>if c a b≠0 then c a b else o_ c xs ys
theorem Nf {α:Type} {c:α->α->Int} (h:Dz c):Dz (o_ c):=by
 refine ⟨?_,?_,?_,?_⟩
 ·intro a
  induction a with
  | nil=>rfl
  | cons x a ih=>simp [o_,h.refl x,ih]
 ·intro a
  induction a with
  | nil=>intro b hb;cases b with
   | nil=>rfl
   | cons _ _=>simp [o_] at hb
  | cons x a ih =>
   intro b hb
   cases b with
   | nil=>simp [o_] at hb
   | cons y b =>
    unfold o_ at hb
    split at hb
    ·rename_i h0;exact absurd hb h0
    ·rename_i h0
     have:=h.zero x y (by simpa using h0)
     subst this
     rw [ih b hb]
 ·intro a
  induction a with
  | nil=>intro b;cases b with
   | nil=>simp [o_]
   | cons _ _=>simp [o_]
  | cons x a ih =>
   intro b
   cases b with
   | nil=>simp [o_]
   | cons y b =>
    unfold o_
    by_cases h0:c x y=0
    ·have:=h.zero x y h0
     subst this
     simp only [h.refl,ne_eq,not_true_eq_false,if_false]
     exact ih b
    ·have h1:c y x≠0:=fun e=>h0 (by rw [h.zero y x e];exact h.refl x)
     rw [if_pos h0,if_pos h1]
     exact h.anti x y
 ·intro a
  induction a with
  | nil =>
   intro b d h1 h2
   cases b with
   | nil=>simp [o_] at h1
   | cons y b=>cases d with
    | nil=>simp [o_] at h2
    | cons _ _=>simp [o_]
  | cons x a ih =>
   intro b d h1 h2
   cases b with
   | nil=>simp [o_] at h1
   | cons y b =>
    cases d with
    | nil=>simp [o_] at h2
    | cons z d =>
     unfold o_ at h1 h2 ⊢
     by_cases e1:c x y=0
     ·have:=h.zero x y e1
      subst this
      rw [if_neg (by simpa using e1)] at h1
      by_cases e2:c x z=0
      ·rw [if_neg (by simpa using e2)] at h2 ⊢
       exact ih b d h1 h2
      ·rw [if_pos e2] at h2 ⊢
       exact h2
     ·rw [if_pos e1] at h1
      by_cases e2:c y z=0
      ·have:=h.zero y z e2
       subst this
       rw [if_pos e1];exact h1
      ·rw [if_pos e2] at h2
       have:=h.trans x y z h1 h2
       rw [if_pos (by omega)];exact this
theorem qU : ∀ a b:List Val,bD a b=o_ ni a b
 | [],[]=>rfl
 | [],_::_=>rfl
 | _::_,[]=>rfl
 | a::xs,b::ys=>by rw [bD,o_,qU xs ys]
def DF (x y:UInt8):Int:=if x<y then -1 else if y<x then 1 else 0
theorem RS:Dz DF:=by
 have key : ∀ x y:UInt8,DF x y=jI ((x.toNat:Nat):Int) ((y.toNat:Nat):Int):=by
  intro x y
  unfold DF jI
  simp only [UInt8.lt_iff_toNat_lt,Int.ofNat_lt]
 refine ⟨fun a=>by rw [key];exact tCi_.refl _,fun a b h=>?_,fun a b=>by rw [key,key];exact tCi_.anti _ _,fun a b d h1 h2=>by rw [key] at *;exact tCi_.trans _ _ _ h1 h2⟩
 rw [key] at h
 have:=tCi_.zero _ _ h
 exact UInt8.toNat_inj.1 (by omega)
theorem CX : ∀ a b:List UInt8,Lib.compareBytes a b=o_ DF a b
 | [],[]=>rfl
 | [],_::_=>rfl
 | _::_,[]=>rfl
 | x::a,y::b=>by
  have e:o_ DF (x::a) (y::b)=if DF x y≠0 then DF x y else o_ DF a b:=rfl
  rw [e, <- CX a b]
  have e2:Lib.compareBytes (x::a) (y::b)=if x<y then -1 else if y<x then 1 else Lib.compareBytes a b:=by rw [Lib.compareBytes]
  rw [e2]
  by_cases h1:x<y
  ·simp [h1,DF]
  ·by_cases h2:y<x
   ·simp [h1,h2,DF]
   ·simp [h1,h2,DF]
theorem xH:Dz uI:=by
 have key : ∀ a b:ByteArray,uI a b=o_ DF a.data.toList b.data.toList:=by
  intro a b
  unfold uI
  rw [Lib.cmp_eq,CX]
 have t:=Nf RS
 refine ⟨fun a=>by rw [key];exact t.refl _,fun a b h=>?_,fun a b=>by rw [key,key];exact t.anti _ _,fun a b d h1 h2=>by rw [key] at *;exact t.trans _ _ _ h1 h2⟩
 rw [key] at h
 have:=t.zero _ _ h
 obtain ⟨⟨a⟩⟩:=a
 obtain ⟨⟨b⟩⟩:=b
 simp at this
 rw [this]
theorem RU:Dz ni:=by
 refine ⟨?_,?_,?_,?_⟩
 ·intro a;simp [ni,tCi_.refl,xH.refl]
 ·intro a b h
  obtain ⟨k,n,t⟩:=a
  obtain ⟨k',n',t'⟩:=b
  unfold ni at h
  dsimp only at h
  split at h
  ·rename_i e;exact absurd h e
  ·rename_i e1
   split at h
   ·rename_i e;exact absurd h e
   ·rename_i e2
    have k1:=tCi_.zero _ _ (show jI k k'=0 by simpa using e1)
    have k2:=tCi_.zero _ _ (show jI n n'=0 by simpa using e2)
    have k3:=xH.zero _ _ h
    subst k1 k2 k3;rfl
 ·intro a b
  unfold ni
  by_cases e1:jI a.kind b.kind=0
  ·have k:=tCi_.zero _ _ e1
   rw [k]
   simp only [tCi_.refl,ne_eq,not_true_eq_false,if_false]
   by_cases e2:jI a.int b.int=0
   ·have k2:=tCi_.zero _ _ e2
    rw [k2]
    simp only [tCi_.refl,ne_eq,not_true_eq_false,if_false]
    exact xH.anti _ _
   ·have e2':jI b.int a.int≠0:=fun e=>e2 (by rw [tCi_.zero _ _ e];exact tCi_.refl _)
    rw [if_pos e2,if_pos e2']
    exact tCi_.anti _ _
  ·have e1':jI b.kind a.kind≠0:=fun e=>e1 (by rw [tCi_.zero _ _ e];exact tCi_.refl _)
   rw [if_pos e1,if_pos e1']
   exact tCi_.anti _ _
 ·intro a b d h1 h2
  unfold ni at *
  by_cases e1:jI a.kind b.kind=0
  ·have k:=tCi_.zero _ _ e1
   rw [k] at h1 ⊢
   simp only [tCi_.refl,ne_eq,not_true_eq_false,if_false] at h1
   by_cases f1:jI b.kind d.kind=0
   ·rw [if_neg (by simpa using f1)] at h2 ⊢
    by_cases e2:jI a.int b.int=0
    ·have k2:=tCi_.zero _ _ e2
     rw [k2] at h1 ⊢
     simp only [tCi_.refl,ne_eq,not_true_eq_false,if_false] at h1
     by_cases f2:jI b.int d.int=0
     ·rw [if_neg (by simpa using f2)] at h2 ⊢
      exact xH.trans _ _ _ h1 h2
     ·rw [if_pos f2] at h2 ⊢;exact h2
    ·rw [if_pos e2] at h1
     by_cases f2:jI b.int d.int=0
     ·have k2:=tCi_.zero _ _ f2
      rw [<- k2,if_pos e2];exact h1
     ·rw [if_pos f2] at h2
      have:=tCi_.trans _ _ _ h1 h2
      rw [if_pos (by omega)];exact this
   ·rw [if_pos f1] at h2 ⊢;exact h2
  ·rw [if_pos e1] at h1
   by_cases f1:jI b.kind d.kind=0
   ·have k:=tCi_.zero _ _ f1
    rw [<- k,if_pos e1];exact h1
   ·rw [if_pos f1] at h2
    have:=tCi_.trans _ _ _ h1 h2
    rw [if_pos (by omega)];exact this
theorem tCr_:Dz bD:=by
 have t:=Nf RU
 exact ⟨fun a=>by rw [qU];exact t.refl _,fun a b h=>t.zero _ _ (by rw [<- qU];exact h),fun a b=>by rw [qU,qU];exact t.anti _ _,fun a b d h1 h2=>by rw [qU] at *;exact t.trans _ _ _ h1 h2⟩
section
variable {α:Type} {c:α->α->Int}
def Asc (c:α->α->Int) (l:List α):Prop:=l.Pairwise fun a b=>c a b<=0
theorem Dz.le_trans (h:Dz c) {a b d:α} (h1:c a b<=0) (h2:c b d<=0):c a d<=0:=by
 by_cases e1:c a b=0
 ·rw [h.zero a b e1];exact h2
 ·by_cases e2:c b d=0
  ·rw [<- h.zero b d e2];exact h1
  ·have:=h.trans a b d (by omega) (by omega);omega
theorem Dz.total (h:Dz c) (a b:α):c a b<=0\/c b a<=0:=by
 by_cases e:c a b<=0
 ·exact .inl e
 ·have:=(h.anti b a).2 (by omega);exact .inr (by omega)
theorem ol (h:Dz c) : ∀ {l m:List α}, Asc c l->Asc c m->l.Perm m->l=m
 | [],m,_,_,hp=>by rw [List.Perm.nil_eq hp]
 | x::l,[],_,_,hp=>by have:=hp.length_eq;simp at this
 | x::l,y::m,hl,hm,hp=>by
  have hx:x∈y::m:=hp.mem_iff.1 (List.mem_cons_self ..)
  have hy:y∈x::l:=hp.mem_iff.2 (List.mem_cons_self ..)
  rw [Asc,ab2] at hl hm
  have e:x=y:=by
   rcases abq.1 hx with e|hx
   ·exact e
   ·rcases abq.1 hy with e|hy
    ·exact e.symm
    ·have h1:=hm.1 x hx
     have h2:=hl.1 y hy
     by_cases e0:c x y=0
     ·exact h.zero _ _ e0
     ·have:=(h.anti x y).1 (by omega);omega
  subst e
  rw [ol h hl.2 hm.2 (List.Perm.cons_inv hp)]
end
theorem Mr (x y:Int):IA x y=some (jI x y):=by
 unfold IA FC jI
 by_cases h1:x<y
 ·simp [h1]
 ·by_cases h2:y<x
  ·simp [h1,h2]
  ·simp [h1,h2]
def orS (_:Unit) (x:Int):Option (Sum Unit Int):=if x≠0 then some (.inr x) else some (.inl ())
theorem aax (a b c:Int):Zz [a,b,c]=some (if a≠0 then a else if b≠0 then b else c):=by
 unfold Zz
 rw [dx (l:=[a,b,c]) (mk:=fun (_:Unit) i=>i) (f:=orS) ?_ ?_ (by unfold fuel;simp) ()]
 ·unfold orS
  by_cases h1:a=0
  ·by_cases h2:b=0
   ·by_cases h3:c=0
    ·simp [dE,G9,um,h1,h2,h3]
    ·simp [dE,G9,um,h1,h2,h3]
   ·simp [dE,G9,um,h1,h2]
  ·simp [dE,G9,um,h1]
 ·intro s i x hx
  have hi:i<3:=(aa9.1 hx).1
  unfold J6 orS
  dsimp only
  rw [aY hx,aa',gn_ hx]
  simp only [aa8]
  rw [wrapN (by omega)]
  by_cases h:x=0
  ·simp [h,rf]
  ·simp [h,rf]
 ·intro s
  unfold J6
  dsimp only
  rw [lF_,aa_]
theorem u_ (v w:Val):ww v w=some (ni v w):=by
 unfold ww
 rw [Mr,Mr]
 simp only [aa8]
 rw [aax]
 rfl
theorem MW : ∀ (b:List Val),bD [] b=if b=[] then 0 else -1
 | []=>rfl
 | _::_=>rfl
theorem Jm {a b:List Val} (ha:a.length<=4000000000000) (hb:b.length<=4000000000000) : ∀ (n i:Nat),i<=a.length->i<=b.length->a.length-i<n->(ax (kN a b fun x0 x1=>ww x0 x1) n (i:Int)).bind (fJ a b)=some (bD (a.drop i) (b.drop i))
 | 0,_,_,_,h=>by omega
 | n+1,i,h1,h2,hn=>by
  rw [ax]
  by_cases hlt:i<a.length
  ·obtain ⟨x,hx⟩:=gol_ hlt
   have ex:=(aa9.1 hx).2
   have eb:kN a b (fun x0 x1=>ww x0 x1) (i:Int)=bif (decide (((b.length:Nat):Int)<=(i:Int))) then some (.ret (1:Int)) else (aL b (i:Int)).bind fun x_5=>(ww x x_5).bind fun r_6=>bif (decide (r_6≠(0:Int))) then some (.ret r_6) else some (.next (IntKind.i64.wrap ((i:Int)+(1:Int)))):=by
    unfold kN
    dsimp only
    rw [aY hx,aa',gn_ hx]
    rfl
   rw [eb,abG hlt,ex]
   by_cases hlb:i<b.length
   ·obtain ⟨y,hy⟩:=gol_ hlb
    have ey:=(aa9.1 hy).2
    rw [abG hlb,ey,show decide (((b.length:Nat):Int)<=(i:Int))=false from aba (by omega),aa_,gn_ hy,bD]
    simp only [aa8,u_]
    by_cases h:ni x y=0
    ·simp only [h,ne_eq,not_true_eq_false,decide_false,aa_,if_false]
     rw [wrapN (by omega)]
     have k:=Jm ha hb n (i+1) (by omega) (by omega) (by omega)
     simp only [u_] at k
     exact k
    ·simp [h,fJ]
   ·have:i=b.length:=by omega
    subst this
    rw [ab1,show decide (((b.length:Nat):Int)<=((b.length:Nat):Int))=true from abb (by omega),aa']
    rfl
  ·have:i=a.length:=by omega
   subst this
   have eb:kN a b (fun x0 x1=>ww x0 x1) ((a.length:Nat):Int)=some (.exit ((a.length:Nat):Int)):=by
    unfold kN
    dsimp only
    rw [lF_,aa_]
   rw [eb,ab1,MW]
   show fJ a b (.inl ((a.length:Nat):Int))=_
   unfold fJ
   by_cases h:a.length<b.length
   ·rw [show decide (((a.length:Nat):Int)<((b.length:Nat):Int))=true from abb (by omega),aa',if_neg (by rw [List.drop_eq_nil_iff];omega)]
   ·rw [show decide (((a.length:Nat):Int)<((b.length:Nat):Int))=false from aba (by omega),aa_,if_pos (by rw [List.drop_eq_nil_iff];omega)]
theorem MC (a b:List Val) (ha:a.length<=4000000000000) (hb:b.length<=4000000000000):CK a b=some (bD a b):=by
 unfold CK Kh
 have:=Jm ha hb fuel 0 (abv _) (abv _) (by unfold fuel;omega)
 rw [show (((0:Nat):Int))=0 from rfl] at this
 rw [this];rfl
theorem bytesLess_eq : ∀ a b:List UInt8,Op.bytesLess a b=decide (Lib.compareBytes a b<0)/\(a==b)=decide (Lib.compareBytes a b=0)
 | [],[]=>⟨rfl,rfl⟩
 | [],_::_=>⟨rfl,rfl⟩
 | _::_,[]=>⟨rfl,rfl⟩
 | x::a,y::b=>by
  have e2:Lib.compareBytes (x::a) (y::b)=if x<y then -1 else if y<x then 1 else Lib.compareBytes a b:=by rw [Lib.compareBytes]
  have e3:Op.bytesLess (x::a) (y::b)=(decide (x<y)||(x==y&&Op.bytesLess a b)):=by rw [Op.bytesLess]
  obtain ⟨i1,i2⟩:=bytesLess_eq a b
  rw [e2,e3,List.cons_beq_cons,i1,i2]
  by_cases h1:x<y
  ·have hne:x≠y:=fun e=>by rw [e] at h1;exact absurd h1 (UInt8.lt_irrefl y)
   simp [h1,hne]
  ·by_cases h2:y<x
   ·have hne:x≠y:=fun e=>by rw [e] at h2;exact absurd h2 (UInt8.lt_irrefl y)
    simp [h1,h2,hne]
   ·have heq:x=y:=UInt8.le_antisymm (UInt8.not_lt.1 h2) (UInt8.not_lt.1 h1)
    subst heq
    simp [h1]
theorem RB (a b:ByteArray):Op.bytesLess a.toList b.toList=decide (uI a b<0):=by
 unfold uI
 rw [Lib.cmp_eq,ByteArray.toList_eq,ByteArray.toList_eq];exact (bytesLess_eq _ _).1
theorem VJ (a b:ByteArray):(a.toList==b.toList)=decide (uI a b=0):=by
 unfold uI
 rw [Lib.cmp_eq,ByteArray.toList_eq,ByteArray.toList_eq];exact (bytesLess_eq _ _).2
theorem oo : ∀ a b:List UInt8,Lib.compareBytes a b = -1\/Lib.compareBytes a b=0\/Lib.compareBytes a b=1
 | [],[] => .inr (.inl rfl)
 | [],_::_ => .inl rfl
 | _::_,[] => .inr (.inr rfl)
 | x::a,y::b=>by
  have e2:Lib.compareBytes (x::a) (y::b)=if x<y then -1 else if y<x then 1 else Lib.compareBytes a b:=by rw [Lib.compareBytes]
  rw [e2]
  split
  ·exact .inl rfl
  ·split
   ·exact .inr (.inr rfl)
   ·exact oo a b
theorem zT (v w:Val):Av v w=some (ni v w):=by
 unfold Av ni JA
 rw [RB,VJ]
 have hr:uI v.text w.text = -1\/uI v.text w.text=0\/uI v.text w.text=1:=by unfold uI;rw [Lib.cmp_eq];exact oo _ _
 by_cases h1:v.kind=w.kind
 ·have e1:jI v.kind w.kind=0:=by rw [h1];exact tCi_.refl _
  by_cases h2:v.int=w.int
  ·have e2:jI v.int w.int=0:=by rw [h2];exact tCi_.refl _
   rw [e1,e2]
   simp only [h1,h2,ne_eq,not_true_eq_false,decide_false,aa_,if_false]
   rcases hr with h|h|h<;>rw [h]<;>rfl
  ·have e2:jI v.int w.int≠0:=fun e=>h2 (tCi_.zero _ _ e)
   rw [e1]
   simp only [h1,h2,e2,ne_eq,not_true_eq_false,not_false_eq_true,decide_false,decide_true,aa_,aa',if_false,if_true]
   unfold jI
   by_cases h3:v.int<w.int
   ·simp [h3]
   ·have:w.int<v.int:=by omega
    simp [h3,this]
 ·have e1:jI v.kind w.kind≠0:=fun e=>h1 (tCi_.zero _ _ e)
  simp only [h1,e1,ne_eq,not_true_eq_false,not_false_eq_true,decide_false,decide_true,aa_,aa',if_false,if_true]
  unfold jI
  by_cases h3:v.kind<w.kind
  ·simp [h3]
  ·have:w.kind<v.kind:=by omega
   simp [h3,this]
theorem NE {a b:List Val} (ha:a.length<=4000000000000) (hb:b.length<=4000000000000) : ∀ (n i:Nat),i<=a.length->i<=b.length->a.length-i<n->(ax (kz a b) n (i:Int)).bind (f_ a b)=some (bD (a.drop i) (b.drop i))
 | 0,_,_,_,h=>by omega
 | n+1,i,h1,h2,hn=>by
  rw [ax]
  by_cases hlt:i<a.length
  ·obtain ⟨x,hx⟩:=gol_ hlt
   have ex:=(aa9.1 hx).2
   rw [abG hlt,ex]
   by_cases hlb:i<b.length
   ·obtain ⟨y,hy⟩:=gol_ hlb
    have ey:=(aa9.1 hy).2
    have eb:kz a b (i:Int)=bif (decide (ni x y≠(0:Int))) then some (.ret (ni x y)) else some (.next (IntKind.i64.wrap ((i:Int)+(1:Int)))):=by
     unfold kz
     dsimp only
     rw [aY hx,aa',aY hy,aa',gn_ hx,gn_ hy]
     simp only [aa8,zT]
    rw [eb,abG hlb,ey,bD]
    by_cases h:ni x y=0
    ·simp only [h,ne_eq,not_true_eq_false,decide_false,aa_,if_false]
     rw [wrapN (by omega)]
     exact NE ha hb n (i+1) (by omega) (by omega) (by omega)
    ·simp [h,f_]
   ·have:i=b.length:=by omega
    subst this
    have eb:kz a b ((b.length:Nat):Int)=some (.exit ((b.length:Nat):Int)):=by
     unfold kz
     dsimp only
     rw [aY hx,aa',lF_,aa_]
    rw [eb,ab1]
    show f_ a b (.inl ((b.length:Nat):Int))=_
    unfold f_
    rw [show decide (((a.length:Nat):Int)<((b.length:Nat):Int))=false from aba (by omega),aa_,show decide (((b.length:Nat):Int)<((a.length:Nat):Int))=true from abb (by omega),aa']
    rfl
  ·have:i=a.length:=by omega
   subst this
   have eb:kz a b ((a.length:Nat):Int)=some (.exit ((a.length:Nat):Int)):=by
    unfold kz
    dsimp only
    rw [lF_,aa_]
   rw [eb,ab1,MW]
   show f_ a b (.inl ((a.length:Nat):Int))=_
   unfold f_
   by_cases h:a.length<b.length
   ·rw [show decide (((a.length:Nat):Int)<((b.length:Nat):Int))=true from abb (by omega),aa',if_neg (by rw [List.drop_eq_nil_iff];omega)]
   ·rw [show decide (((a.length:Nat):Int)<((b.length:Nat):Int))=false from aba (by omega),aa_,show decide (((b.length:Nat):Int)<((a.length:Nat):Int))=false from aba (by omega),aa_,if_pos (by rw [List.drop_eq_nil_iff];omega)]
theorem qI (a b:List Val) (ha:a.length<=4000000000000) (hb:b.length<=4000000000000):CB a b=some (bD a b):=by
 unfold CB
 have:=NE ha hb fuel 0 (abv _) (abv _) (by unfold fuel;omega)
 rw [show (((0:Nat):Int))=0 from rfl] at this
 rw [this];rfl
def Ga (B:List (List Val)) (x:List Val):Nat->Nat
 | 0=>0
 | j+1=>match B[j]? with
  | some y=>if bD x y<0 then Ga B x j else j+1
  | none=>j+1
def Nw (B:List (List Val)) (x:List Val):List (List Val):=B.take (Ga B x B.length)++x::B.drop (Ga B x B.length)
def aI (l:List (List Val)):List (List Val):=l.foldl Nw []
theorem Je (B:List (List Val)) (x:List Val) : ∀ j,j<=B.length->Ga B x j<=j/\(∀ i y,Ga B x j<=i->i<j->B[i]?=some y->bD x y<0)/\(∀ q,Ga B x j=q+1 -> ∃ y,B[q]?=some y /\ ¬ bD x y<0)
 | 0,_=>⟨abp _,fun i y _ h=>by omega,fun q h=>by simp [Ga] at h⟩
 | j+1,hj=>by
  obtain ⟨y,hy⟩:=gol_ (show j<B.length by omega)
  have e:Ga B x (j+1)=if bD x y<0 then Ga B x j else j+1:=by rw [Ga,hy]
  rw [e]
  by_cases h:bD x y<0
  ·rw [if_pos h]
   obtain ⟨h1,h2,h3⟩:=Je B x j (by omega)
   refine ⟨by omega,fun i z hi hij hz=>?_,h3⟩
   by_cases hij':i<j
   ·exact h2 i z hi hij' hz
   ·have:i=j:=by omega
    subst this
    rw [hy] at hz
    obtain rfl:=abH hz
    exact h
  ·rw [if_neg h]
   refine ⟨abp _,fun i z hi hij=>by omega,fun q hq=>?_⟩
   obtain rfl:j=q:=by omega
   exact ⟨y,hy,h⟩
theorem Q_ (B:List (List Val)) (x:List Val):(Nw B x).Perm (x::B):=by
 unfold Nw
 refine List.perm_middle.trans ?_
 rw [abU]
theorem Uo {B:List (List Val)} (x:List Val) (h:Asc bD B):Asc bD (Nw B x):=by
 obtain ⟨h1,h2,h3⟩:=Je B x B.length (abp _)
 unfold Nw
 generalize Ga B x B.length=p at h1 h2 h3
 have hB:Asc bD (B.take p++B.drop p):=by rw [abU];exact h
 obtain ⟨ht,hd,hc⟩:=List.pairwise_append.1 hB
 have hx : ∀ b∈B.drop p,bD x b<=0:=by
  intro b hb
  obtain ⟨i,hi⟩:=List.getElem?_of_mem hb
  rw [abV] at hi
  have:=h2 (p+i) b (by omega) (aa9.1 hi).1 hi
  omega
 have hl : ∀ a∈B.take p,bD a x<=0:=by
  intro a ha
  cases p with
  | zero=>simp at ha
  | succ q =>
   obtain ⟨y,hy,hn⟩:=h3 q rfl
   have hyx:bD y x<=0:=by
    have:=tCr_.anti x y
    have:=tCr_.anti y x
    omega
   have hq:q<B.length:=(aa9.1 hy).1
   have ey:=(aa9.1 hy).2
   rw [List.take_succ_eq_append_getElem hq,ey] at ha ht
   rcases abC.1 ha with ha|ha
   ·exact tCr_.le_trans ((List.pairwise_append.1 ht).2.2 a ha y (by simp)) hyx
   ·obtain rfl:a=y:=by simpa using ha
    exact hyx
 refine List.pairwise_append.2 ⟨ht,ab2.2 ⟨hx,hd⟩,fun a ha b hb=>?_⟩
 rcases abq.1 hb with rfl|hb
 ·exact hl a ha
 ·exact hc a ha b hb
theorem Bj : ∀ (l B:List (List Val)),Asc bD B->Asc bD (l.foldl Nw B)/\(l.foldl Nw B).Perm (l++B)
 | [],B,h=>⟨h,List.Perm.refl _⟩
 | x::l,B,h=>by
  obtain ⟨h1,h2⟩:=Bj l (Nw B x) (Uo x h)
  refine ⟨h1,h2.trans ?_⟩
  refine ((Q_ B x).append_left l).trans ?_
  exact List.perm_middle
theorem eH (l:List (List Val)):Asc bD (aI l):=(Bj l [] List.Pairwise.nil).1
theorem bn (l:List (List Val)):(aI l).Perm l:=by
 have:=(Bj l [] List.Pairwise.nil).2
 rwa [abJ] at this
theorem zL {l r:List (List Val)} (h1:Asc bD r) (h2:r.Perm l):aI l=r:=ol tCr_ (eH l) h1 ((bn l).trans h2.symm)
def push {α β ρ:Type} (g:α->β) (N:Nat) (s:List β) (x:α):Option (Sum (List β) ρ):=bif decide (s.length+1<=N) then some (.inl (s++[g x])) else none
theorem I4 {α β ρ:Type} (g:α->β) (N:Nat) : ∀ (l:List α) (s:List β),s.length+l.length<=N->dE (ρ:=ρ) (push g N) s l=some (.inl (s++l.map g))
 | [],s,_=>by simp [dE]
 | x::l,s,h=>by
  have h':s.length+(l.length+1)<=N:=by simpa using h
  have e:push (ρ:=ρ) g N s x=some (.inl (s++[g x])):=by unfold push;rw [show decide (s.length+1<=N)=true from abb (by omega)];rfl
  rw [dE,e]
  have:=I4 (ρ:=ρ) g N l (s++[g x]) (by simp;omega)
  simpa using this
theorem Le {α σ ρ:Type} {f:σ->α->Option (Sum σ ρ)} : ∀ (l:List α) (s:σ),(∀ s x,x∈l -> ∃ r,f s x=some r) -> ∃ r,dE f s l=some r
 | [],s,_=>⟨_,rfl⟩
 | x::l,s,h=>by
  obtain ⟨r,hr⟩:=h s x (List.mem_cons_self ..)
  rw [dE,hr]
  cases r with
  | inl s'=>exact Le l s' fun s y hy=>h s y (aby _ hy)
  | inr r=>exact ⟨_,rfl⟩
theorem Nb (x y:List Val) (hx:x.length<=1000000) (hy:y.length<=1000000):wT x y []=some (decide (bD x y<0)):=by
 unfold wT
 rw [dx (l:=([]:List Ic)) (mk:=fun (_:Unit) i=>i) (f:=fun (_:Unit) (_:Ic)=>(none:Option (Sum Unit Bool))) ?_ ?_ (by unfold fuel;simp) ()]
 ·show jD x y (.inl ((([]:List Ic).length:Nat):Int))=_
  unfold jD
  rw [qI x y (by omega) (by omega)];rfl
 ·intro s i x hx;simp at hx
 ·intro s
  unfold zn
  dsimp only
  rw [lF_,aa_]
def Vl (x y:List Val):Bool := !decide (bD y x<0)
theorem pz (x y:List Val):Vl x y=true↔bD x y<=0:=by
 unfold Vl
 have:=tCr_.anti x y
 have:=tCr_.anti y x
 simp
 omega
theorem tK {a b:List (List Val)} (ha:a.length<=1000000) (hb:b.length<=1000000) (hra : ∀ r∈a,r.length<=1000000) (hrb : ∀ r∈b,r.length<=1000000) : ∀ (n i k:Nat) (out:List (List Val)),i<=a.length->k<=b.length->out.length=i+k->(a.length-i)+(b.length-k)<n->(ax (eD a b []) n (out,(i:Int),(k:Int))).bind tJ=some (out++List.merge (a.drop i) (b.drop k) Vl)
 | 0,_,_,_,_,_,_,h=>by omega
 | n+1,i,k,out,h1,h2,ho,hn=>by
  have hg:decide (out.length+1<=5864062014805)=true:=abb (by omega)
  rw [ax]
  by_cases hlt:i<a.length
  ·obtain ⟨x,hx⟩:=gol_ hlt
   have ex:=(aa9.1 hx).2
   have hne:decide ((i:Int)=((a.length:Nat):Int))=false:=aba (by omega)
   have ihA:=tK ha hb hra hrb n (i+1) k (out++[x]) (by omega) (by omega) (by simp;omega) (by omega)
   by_cases hlb:k<b.length
   ·obtain ⟨y,hy⟩:=gol_ hlb
    have ey:=(aa9.1 hy).2
    have ihB:=tK ha hb hra hrb n i (k+1) (out++[y]) (by omega) (by omega) (by simp;omega) (by omega)
    have eb:eD a b [] (out,(i:Int),(k:Int))=bif decide (bD y x<0) then some (.next (out++[y],(i:Int),((k+1:Nat):Int))) else some (.next (out++[x],((i+1:Nat):Int),(k:Int))):=by
     unfold eD
     dsimp only
     rw [aY hx,aa',hne,aa_,aY hy,aa',gn_ hy,gn_ hx]
     simp only [aa8]
     rw [Nb y x (hrb y (abe hy)) (hra x (abe hx)),wrapN (by omega),wrapN (by omega),hg]
     rfl
    rw [eb,abG hlt,abG hlb,ex,ey,List.cons_merge_cons]
    rw [abG hlb,ey] at ihA
    rw [abG hlt,ex] at ihB
    by_cases hc:bD y x<0
    ·rw [show decide (bD y x<0)=true from abb hc,aa',if_neg (by unfold Vl;simp [hc])]
     dsimp only
     rw [ihB];simp
    ·rw [show decide (bD y x<0)=false from aba hc,aa_,if_pos (by unfold Vl;simp [hc])]
     dsimp only
     rw [ihA];simp
   ·have hk:k=b.length:=by omega
    have eb:eD a b [] (out,(i:Int),(k:Int))=some (.next (out++[x],((i+1:Nat):Int),(k:Int))):=by
     unfold eD
     dsimp only
     rw [aY hx,aa',hne,aa_,hk,lF_,aa_,gn_ hx]
     simp only [aa8]
     rw [wrapN (by omega),hg]
     rfl
    rw [eb]
    dsimp only
    rw [ihA,abG hlt,ex,hk,ab1,List.merge_right,List.merge_right]
    simp
  ·have hi:i=a.length:=by omega
   subst hi
   by_cases hlb:k<b.length
   ·obtain ⟨y,hy⟩:=gol_ hlb
    have ey:=(aa9.1 hy).2
    have ihB:=tK ha hb hra hrb n a.length (k+1) (out++[y]) (by omega) (by omega) (by simp;omega) (by omega)
    have eb:eD a b [] (out,((a.length:Nat):Int),(k:Int))=some (.next (out++[y],((a.length:Nat):Int),((k+1:Nat):Int))):=by
     unfold eD
     dsimp only
     rw [lF_,aa_,aY hy,aa',show decide (((a.length:Nat):Int)=((a.length:Nat):Int))=true from abb rfl,aa',gn_ hy]
     simp only [aa8]
     rw [wrapN (by omega),hg]
     rfl
    rw [eb]
    dsimp only
    rw [ihB,abG hlb,ey,ab1,List.nil_merge,List.nil_merge]
    simp
   ·have hk:k=b.length:=by omega
    subst hk
    have eb:eD a b [] (out,((a.length:Nat):Int),((b.length:Nat):Int))=some (.exit (out,((a.length:Nat):Int),((b.length:Nat):Int))):=by
     unfold eD
     dsimp only
     rw [lF_,aa_,lF_,aa_]
    rw [eb,ab1,ab1,List.nil_merge,abJ]
    rfl
theorem NT {a b:List (List Val)} (ha:a.length<=1000000) (hb:b.length<=1000000) (hra : ∀ r∈a,r.length<=1000000) (hrb : ∀ r∈b,r.length<=1000000):AL a b []=some (List.merge a b Vl):=by
 unfold AL
 have:=tK ha hb hra hrb fuel 0 0 [] (abv _) (abv _) rfl (by unfold fuel;omega)
 rw [show (((0:Nat):Int))=0 from rfl] at this
 rw [this];simp
theorem Re {a b:List (List Val)} (ha:Asc bD a) (hb:Asc bD b):Asc bD (List.merge a b Vl):=by
 have:=List.pairwise_merge (le:=Vl) (fun x y z h1 h2=>(pz x z).2 (tCr_.le_trans ((pz x y).1 h1) ((pz y z).1 h2))) (fun x y=>by
  rw [Bool.or_eq_true,pz,pz];exact tCr_.total x y) a b (ha.imp fun h=>(pz _ _).2 h) (hb.imp fun h=>(pz _ _).2 h)
 exact this.imp fun h=>(pz _ _).1 h
theorem RN : ∀ (n:Nat) (l:List (List Val)),l.length<=n->l.length<=1000000->(∀ r∈l,r.length<=1000000) -> ∃ r,Be (n+1) l []=some r/\Asc bD r/\r.Perm l:=by
 intro n
 induction n with
 | zero =>
  intro l h _ _
  have:l=[]:=by cases l with|nil=>rfl|cons _ _=>simp at h
  subst this
  exact ⟨[],rfl,List.Pairwise.nil,List.Perm.refl _⟩
 | succ n ih =>
  intro l h hl hr
  match l,h,hl,hr with
  | [],_,_,_=>exact ⟨[],rfl,List.Pairwise.nil,List.Perm.refl _⟩
  | [x],_,_,hr =>
   have hx:=hr x (by simp)
   refine ⟨[x],?_,by simp [Asc],List.Perm.refl _⟩
   show sG (Be (n+1)) [x] []=_
   unfold sG
   simp only [abw,abF]
   rw [show aL [x] 0=some x from rfl]
   simp only [aa8]
   rw [show decide (x.length<=4398046511104)=true from abb (by omega)]
   rfl
  | x::y::t,h,hl,hr =>
   generalize hL:x::y::t=l at h hl hr
   have h2:2<=l.length:=by rw [<- hL];simp
   have hm:IntKind.i64.wrap (((l.length:Nat):Int).tdiv (2:Int))=((l.length/2:Nat):Int):=by
    rw [show ((l.length:Nat):Int).tdiv 2=((l.length/2:Nat):Int) from rfl]
    exact bu (by omega) (by omega)
   have s1:jE l 0 ((l.length/2:Nat):Int)=some (l.take (l.length/2)):=by
    unfold jE
    rw [if_pos (by omega),Int.toNat_natCast];rfl
   have s2:jE l ((l.length/2:Nat):Int) ((l.length:Nat):Int)=some (l.drop (l.length/2)):=by
    unfold jE
    rw [if_pos (by omega),Int.toNat_natCast,Int.toNat_natCast,List.take_length]
   obtain ⟨r1,e1,a1,p1⟩:=ih (l.take (l.length/2)) (by simp;omega) (by simp;omega) fun r hr'=>hr r (List.mem_of_mem_take hr')
   obtain ⟨r2,e2,a2,p2⟩:=ih (l.drop (l.length/2)) (by simp;omega) (by simp;omega) fun r hr'=>hr r (List.mem_of_mem_drop hr')
   refine ⟨List.merge r1 r2 Vl,?_,Re a1 a2,?_⟩
   ·show sG (Be (n+1)) l []=_
    unfold sG
    rw [show decide (((l.length:Nat):Int)=0)=false from aba (by omega),aa_,show decide (((l.length:Nat):Int)=1)=false from aba (by omega),aa_,show decide ((2:Int)≠0)=true from rfl,aa',hm,s1,s2]
    simp only [aa8]
    rw [e1,e2]
    simp only [aa8]
    rw [NT (by rw [p1.length_eq];simp;omega) (by rw [p2.length_eq];simp;omega) (fun r hr'=>hr r (List.mem_of_mem_take (p1.mem_iff.1 hr'))) (fun r hr'=>hr r (List.mem_of_mem_drop (p2.mem_iff.1 hr')))]
    rfl
   ·refine (List.merge_perm_append Vl).trans ((p1.append p2).trans ?_)
    rw [abU]
theorem fO (l:List (List Val)) (hl:l.length<=300) (hr : ∀ r∈l,r.length<=1000000):ku l=some (aI l):=by
 obtain ⟨r,e,a,p⟩:=RN 300 l hl (by omega) hr
 unfold ku
 rw [e,zL a p];rfl
theorem xZ {s:ByteArray} (hs:s.size<=1000000) : ∀ (n i:Nat),i<=s.size->s.size-i<n -> ∃ r,(ax (lD s) n (i:Int)).bind dX=some r
 | 0,_,_,h=>by omega
 | n+1,i,h1,hn=>by
  rw [ax]
  unfold lD
  dsimp only
  by_cases hlt:i<s.size
  ·rw [show decide ((i:Int)<((s.size:Nat):Int))=true from abb (by omega),aa']
   obtain ⟨b,hb⟩ : ∃ b,RJ s (i:Int)=some b:=by
    unfold RJ
    rw [if_pos (by omega)]
    exact ⟨s[i],by simp [hlt]⟩
   rw [hb]
   simp only [aa8]
   cases decide (((b.toNat:Nat):Int)<32) with
   | true=>exact ⟨_,rfl⟩
   | false =>
    cases decide ((126:Int)<((b.toNat:Nat):Int)) with
    | true=>exact ⟨_,rfl⟩
    | false =>
     simp only [aa_]
     rw [wrapN (by omega)]
     exact xZ hs n (i+1) (by omega) (by omega)
  ·rw [show decide ((i:Int)<((s.size:Nat):Int))=false from aba (by omega),aa_]
   exact ⟨_,rfl⟩
theorem Ii {s:ByteArray} (hs:s.size<=1000000) : ∃ r,oh s=some r:=by
 have:=xZ hs fuel 0 (abv _) (by unfold fuel;omega)
 rw [show (((0:Nat):Int))=0 from rfl] at this
 exact this
theorem G7 (v:Val) : ∃ r,dW v=some r:=by
 unfold dW
 cases decide (v.kind=0) with
 | true=>cases decide (v.int=0)<;>exact ⟨_,rfl⟩
 | false =>
  cases decide (v.kind=1) with
  | true=>cases (v.text.toList==(⟨#[]⟩:ByteArray).toList)<;>cases decide ((-1125899906842624:Int)<=v.int)<;>exact ⟨_,rfl⟩
  | false =>
   cases decide (v.kind=2) with
   | true =>
    cases decide (v.int=0) with
    | false=>exact ⟨_,rfl⟩
    | true =>
     by_cases h:((v.text.size:Nat):Int)<=200
     ·obtain ⟨r,hr⟩:=Ii (s:=v.text) (by omega)
      rw [show decide (((v.text.size:Nat):Int)<=200)=true from abb h,hr]
      exact ⟨_,rfl⟩
     ·rw [show decide (((v.text.size:Nat):Int)<=200)=false from aba h]
      exact ⟨_,rfl⟩
   | false =>
    cases decide (v.kind=3) with
    | true=>cases (v.text.toList==(⟨#[]⟩:ByteArray).toList)<;>cases decide (v.int=0)<;>exact ⟨_,rfl⟩
    | false=>exact ⟨_,rfl⟩
theorem R7 (row:List Val) (kinds:List Int) (h:row.length<=1000000) : ∃ r,vW row kinds=some r:=by
 unfold vW
 by_cases he:row.length=kinds.length
 ·rw [show decide (((row.length:Nat):Int)≠((kinds.length:Nat):Int))=false from aba (by omega),aa_]
  have hz:(row.zip kinds).length=row.length:=by simp;omega
  have k:=dx (l:=row.zip kinds) (body:=iP row kinds) (mk:=fun (_:Unit) i=>i) (f:=fun (_:Unit) (x:Val × Int)=>(dW x.1).bind fun r=>bif (!r) then some (.inr false) else bif decide (x.1.kind≠0) then bif decide (x.1.kind≠x.2) then some (.inr false) else some (.inl ()) else some (.inl ())) ?_ ?_ (by unfold fuel;omega) ()
  ·obtain ⟨r,hr⟩:=Le (σ:=Unit) (ρ:=Bool) (f:=fun (_:Unit) (x:Val × Int)=>(dW x.1).bind fun r=>bif (!r) then some (.inr false) else bif decide (x.1.kind≠0) then bif decide (x.1.kind≠x.2) then some (.inr false) else some (.inl ()) else some (.inl ())) (row.zip kinds) () (by
    intro s x _
    obtain ⟨r,hr⟩:=G7 x.1
    rw [hr]
    cases r<;>cases decide (x.1.kind≠0)<;>cases decide (x.1.kind≠x.2)<;>exact ⟨_,rfl⟩)
   rw [k,hr]
   cases r with
   | inl _=>exact ⟨_,rfl⟩
   | inr _=>exact ⟨_,rfl⟩
  ·intro s i x hx
   obtain ⟨h1,h2⟩:=List.getElem?_zip_eq_some.1 hx
   have hi:i<row.length:=(aa9.1 h1).1
   unfold iP
   dsimp only
   rw [aY h1,aa',gn_ h1,gn_ h2]
   simp only [aa8]
   rw [wrapN (by omega)]
   cases dW x.1 with
   | none=>rfl
   | some r=>cases r<;>cases decide (x.1.kind≠0)<;>cases decide (x.1.kind≠x.2)<;>rfl
  ·intro s
   unfold iP
   dsimp only
   rw [hz,lF_,aa_]
 ·rw [show decide (((row.length:Nat):Int)≠((kinds.length:Nat):Int))=true from abb (by omega)]
  exact ⟨_,rfl⟩
theorem U4 (k:Int) : ∃ r,Dr k=some r:=by
 unfold Dr
 cases decide (k=1)<;>cases decide (k=2)<;>exact ⟨_,rfl⟩
theorem Rf (l:List Int) (h:l.length<=1000000) : ∃ r,Ej l=some r:=by
 unfold Ej
 have k:=dx (l:=l) (body:=qC l) (mk:=fun (_:Unit) i=>i) (f:=fun (_:Unit) (x:Int)=>(Dr x).bind fun r=>bif (!r) then some (.inr false) else some (.inl ())) ?_ ?_ (by unfold fuel;omega) ()
 ·obtain ⟨r,hr⟩:=Le (σ:=Unit) (ρ:=Bool) (f:=fun (_:Unit) (x:Int)=>(Dr x).bind fun r=>bif (!r) then some (.inr false) else some (.inl ())) l () (by
   intro s x _
   obtain ⟨r,hr⟩:=U4 x
   rw [hr]
   cases r<;>exact ⟨_,rfl⟩)
  rw [k,hr]
  cases r with
  | inl _=>exact ⟨_,rfl⟩
  | inr _=>exact ⟨_,rfl⟩
 ·intro s i x hx
  have hi:i<l.length:=(aa9.1 hx).1
  unfold qC
  dsimp only
  rw [aY hx,aa',gn_ hx]
  simp only [aa8]
  rw [wrapN (by omega)]
  cases Dr x with
  | none=>rfl
  | some r=>cases r<;>rfl
 ·intro s
  unfold qC
  dsimp only
  rw [lF_,aa_]
theorem DJ (l:List Int) (h:l.length<=1000000):gN l l=some true:=by
 unfold gN
 simp only [ne_eq,not_true_eq_false,decide_false,aa_]
 rw [dx (l:=l) (mk:=fun (_:Unit) i=>i) (f:=fun (_:Unit) (_:Int)=>(some (.inl ()):Option (Sum Unit Bool))) ?_ ?_ (by unfold fuel;omega) ()]
 ·have : ∀ l:List Int,dE (fun (_:Unit) (_:Int)=>(some (.inl ()):Option (Sum Unit Bool))) () l=some (.inl ()):=by
   intro l
   induction l with
   | nil=>rfl
   | cons x l ih=>rw [dE];exact ih
  rw [this];rfl
 ·intro s i x hx
  have hi:i<l.length:=(aa9.1 hx).1
  unfold dH
  dsimp only
  rw [aY hx,aa',gn_ hx]
  simp only [aa8]
  rw [wrapN (by omega)]
  simp [rf]
 ·intro s
  unfold dH
  dsimp only
  rw [lF_,aa_]
theorem FD (l:List (List Val)) (h:l.length<=1000000) (hr : ∀ r∈l,r.length<=1000000):jS l l=some true:=by
 unfold jS
 simp only [ne_eq,not_true_eq_false,decide_false,aa_]
 rw [dx (l:=l) (mk:=fun (_:Unit) i=>i) (f:=fun (_:Unit) (x:List Val)=>((gU x x).bind fun r=>bif (!r) then some (.inr false) else some (.inl ()):Option (Sum Unit Bool))) ?_ ?_ (by unfold fuel;omega) ()]
 ·have : ∀ l:List (List Val),(∀ r∈l,r.length<=1000000)->dE (fun (_:Unit) (x:List Val)=>((gU x x).bind fun r=>bif (!r) then some (.inr false) else some (.inl ()):Option (Sum Unit Bool))) () l=some (.inl ()):=by
   intro l
   induction l with
   | nil=>intro _;rfl
   | cons x l ih =>
    intro hr
    have hx:=hr x (List.mem_cons_self ..)
    have e:gU x x=some true:=by
     unfold gU
     rw [qI x x (by omega) (by omega),tCr_.refl];rfl
    rw [dE,e]
    exact ih fun r hr'=>hr r (aby _ hr')
  rw [this l hr];rfl
 ·intro s i x hx
  have hi:i<l.length:=(aa9.1 hx).1
  unfold iX
  dsimp only
  rw [aY hx,aa',gn_ hx]
  simp only [aa8]
  rw [wrapN (by omega)]
  cases gU x x with
  | none=>rfl
  | some r=>cases r<;>rfl
 ·intro s
  unfold iX
  dsimp only
  rw [lF_,aa_]
theorem yl (b:Bag) (h1:b.kinds.length<=1000000) (h2:b.rows.length<=1000000) (h3 : ∀ r∈b.rows,r.length<=1000000):gExactly b b=some true:=by
 unfold gExactly
 rw [DJ _ h1]
 simp only [aa8,aa']
 rw [FD _ h2 h3];rfl
theorem eu {α β ρ:Type} {l:List α} {body:(List β × Int)->Option (Step (List β × Int) ρ)} (g:α->List β) (N:Nat) (h1 : ∀ (s:List β) (i:Nat) x,l[i]?=some x->s.length+(g x).length<=N->body (s,(i:Int))=some (.next (s++g x,((i+1:Nat):Int)))) (h2 : ∀ s:List β,body (s,((l.length:Nat):Int))=some (.exit (s,((l.length:Nat):Int)))) (hl:l.length<fuel) (s:List β) (hN:s.length+(l.flatMap g).length<=N) :
  ax body fuel (s,(0:Int))=some (.inl (s++l.flatMap g,((l.length:Nat):Int))):=by
 have key : ∀ (n i:Nat) (s:List β),i<=l.length->l.length-i<n->s.length+((l.drop i).flatMap g).length<=N->ax body n (s,(i:Int))=some (.inl (s++(l.drop i).flatMap g,((l.length:Nat):Int))):=by
  intro n
  induction n with
  | zero=>intro i s _ h _;omega
  | succ n ih =>
   intro i s hi hn hs
   rw [ax]
   by_cases hlt:i<l.length
   ·obtain ⟨x,hx⟩:=gol_ hlt
    have e1:=(aa9.1 hx).2
    rw [abG hlt,e1,abN] at hs ⊢
    rw [abg] at hs
    rw [h1 s i x hx (by omega)]
    show ax body n _=_
    rw [ih (i+1) (s++g x) (by omega) (by omega) (by rw [abg];omega),abB]
   ·have:i=l.length:=by omega
    subst this
    rw [h2,ab1]
    simp
 have:=key fuel 0 s (abv _) (by omega) (by simpa using hN)
 simpa using this
def yc (l:List (List Val)):Prop:=l.Pairwise fun a b=>bD a b<0
instance decRow (a b : List Val) : Decidable (a = b) := if h : bD a b = 0 then .isTrue (tCr_.zero _ _ h) else .isFalse fun e => h (by rw [e]; exact tCr_.refl _)
set_option maxHeartbeats 8000000
abbrev dN (p:iQ):Bool:=decide (0<=p.lo)&&decide (p.lo<p.hi)&&decide (p.hi<=1099511627776)
theorem Uh (p:iQ):Yr p=some (dN p):=by
 unfold Yr dN
 cases h1:decide (0<=p.lo)<;>cases h2:decide (p.lo<p.hi)<;>cases h3:decide (p.hi<=1099511627776)<;>simp_all
theorem fo_ {α β:Type} (f:α->β) : ∀ l:List α,(l.flatMap fun x=>[f x])=l.map f
 | []=>rfl
 | x::l=>by rw [abN,fo_ f l];rfl
theorem nT {α:Type} (p:α->Bool) : ∀ l:List α,(l.flatMap fun x=>if p x then [x] else [])=l.filter p
 | []=>rfl
 | x::l=>by
  rw [abN,nT p l]
  by_cases h:p x=true
  ·rw [if_pos h,List.filter_cons_of_pos h];rfl
  ·rw [if_neg h,List.filter_cons_of_neg h];rfl
theorem F_ (p:iQ):xK p=some (dN p):=by
 unfold xK dN
 cases h1:decide (0<=p.lo)<;>cases h2:decide (p.lo<p.hi)<;>cases h3:decide (p.hi<=1099511627776)<;>simp_all
end Go.Proofs.YtfpbmfalamappaaGreatDoor
