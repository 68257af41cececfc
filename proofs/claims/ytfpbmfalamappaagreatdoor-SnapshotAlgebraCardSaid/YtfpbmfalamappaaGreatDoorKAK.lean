/- Parts of the proof, joined. No condition. -/
import Derived.Test.YtfpbmfalamappaaGreatDoorKAA
import Derived.Test.YtfpbmfalamappaaGreatDoorKAJ
set_option linter.unusedSimpArgs false
set_option linter.unusedVariables false
namespace Go.Proofs.YtfpbmfalamappaaGreatDoor
open Go.RowKit Go.MapKept
set_option maxRecDepth 100000
set_option maxHeartbeats 8000000
def uf (a_op:Int) (a_n:Int):Option (Bool × Bool):=bif (decide (a_op=(1:Int))) then some ((decide (a_n=(0:Int))),true) else
 bif (decide (a_op=(2:Int))) then some ((decide (a_n=(0:Int))),true) else
 bif (decide (a_op=(4:Int))) then some ((decide (a_n=(1:Int))),true) else
 bif (decide (a_op=(18:Int))) then some ((decide (a_n=(1:Int))),true) else
 bif (decide (a_op=(20:Int))) then some ((decide (a_n=(1:Int))),true) else
 bif (decide (a_op=(21:Int))) then some ((decide (a_n=(1:Int))),true) else
 bif (decide (a_op=(7:Int))) then some ((decide (a_n=(2:Int))),true) else
 bif (decide (a_op=(8:Int))) then some ((decide (a_n=(2:Int))),true) else
 bif (decide (a_op=(9:Int))) then some ((decide (a_n=(2:Int))),true) else
 bif (decide (a_op=(10:Int))) then some ((decide (a_n=(2:Int))),true) else
 bif (decide (a_op=(11:Int))) then some ((decide (a_n=(2:Int))),true) else
 bif (decide (a_op=(12:Int))) then some ((decide (a_n=(2:Int))),true) else
 bif (decide (a_op=(13:Int))) then some ((decide (a_n=(2:Int))),true) else
 bif (decide (a_op=(14:Int))) then some ((decide (a_n=(2:Int))),true) else
 bif (decide (a_op=(15:Int))) then some ((decide (a_n=(2:Int))),true) else
 bif (decide (a_op=(16:Int))) then some ((decide (a_n=(2:Int))),true) else
 bif (decide (a_op=(17:Int))) then some ((decide (a_n=(2:Int))),true) else
 bif (decide (a_op=(19:Int))) then some ((decide (a_n=(2:Int))),true) else
 bif (decide (a_op=(5:Int))) then some ((decide ((2:Int)<=a_n)),true) else
 bif (decide (a_op=(6:Int))) then some ((decide ((2:Int)<=a_n)),true) else
 bif (decide (a_op=(22:Int))) then some ((decide (a_n=(3:Int))),true) else
 bif (decide (a_op=(23:Int))) then some ((decide ((1:Int)<=a_n)),true) else
 bif (decide (a_op=(24:Int))) then some ((decide (a_n=(4:Int))),true) else
 some (false,false)
theorem FN {a_op:Int} {a_n:Int} {r:Bool × Bool} (H:uf a_op a_n=some r):Pure Tryz.prog 152 [.one (.int .i64 a_op), .one (.int .i64 a_n)] (.tup [.one (.bool r.1), .one (.bool r.2)]):=by
 unfold uf at H
 refine po_ Tryz.func152 Tryz.ntmps152 ?_
 rcases cnd_ H with ⟨q_1,H⟩|⟨q_1,H⟩
 ·cases H
  exact go_
 rcases cnd_ H with ⟨q_2,H⟩|⟨q_2,H⟩
 ·cases H
  exact go_
 refine bC ?_
 rcases cnd_ H with ⟨q_3,H⟩|⟨q_3,H⟩
 ·cases H
  exact go_
 rcases cnd_ H with ⟨q_4,H⟩|⟨q_4,H⟩
 ·cases H
  exact go_
 rcases cnd_ H with ⟨q_5,H⟩|⟨q_5,H⟩
 ·cases H
  exact go_
 refine bC ?_
 rcases cnd_ H with ⟨q_6,H⟩|⟨q_6,H⟩
 ·cases H
  exact go_
 rcases cnd_ H with ⟨q_7,H⟩|⟨q_7,H⟩
 ·cases H
  exact go_
 rcases cnd_ H with ⟨q_8,H⟩|⟨q_8,H⟩
 ·cases H
  exact go_
 refine bC ?_
 rcases cnd_ H with ⟨q_9,H⟩|⟨q_9,H⟩
 ·cases H
  exact go_
 rcases cnd_ H with ⟨q_10,H⟩|⟨q_10,H⟩
 ·cases H
  exact go_
 rcases cnd_ H with ⟨q_11,H⟩|⟨q_11,H⟩
 ·cases H
  exact go_
 refine bC ?_
 rcases cnd_ H with ⟨q_12,H⟩|⟨q_12,H⟩
 ·cases H
  exact go_
 rcases cnd_ H with ⟨q_13,H⟩|⟨q_13,H⟩
 ·cases H
  exact go_
 rcases cnd_ H with ⟨q_14,H⟩|⟨q_14,H⟩
 ·cases H
  exact go_
 refine bC ?_
 rcases cnd_ H with ⟨q_15,H⟩|⟨q_15,H⟩
 ·cases H
  exact go_
 rcases cnd_ H with ⟨q_16,H⟩|⟨q_16,H⟩
 ·cases H
  exact go_
 rcases cnd_ H with ⟨q_17,H⟩|⟨q_17,H⟩
 ·cases H
  exact go_
 refine bC ?_
 rcases cnd_ H with ⟨q_18,H⟩|⟨q_18,H⟩
 ·cases H
  exact go_
 rcases cnd_ H with ⟨q_19,H⟩|⟨q_19,H⟩
 ·cases H
  exact go_
 rcases cnd_ H with ⟨q_20,H⟩|⟨q_20,H⟩
 ·cases H
  exact go_
 refine bC ?_
 rcases cnd_ H with ⟨q_21,H⟩|⟨q_21,H⟩
 ·cases H
  exact go_
 rcases cnd_ H with ⟨q_22,H⟩|⟨q_22,H⟩
 ·cases H
  exact go_
 rcases cnd_ H with ⟨q_23,H⟩|⟨q_23,H⟩
 ·cases H
  exact go_
 cases H
 exact go_
def pq (a_e:Ex):Option (Bool):=(uf a_e.op ((a_e.args.length:Nat):Int)).bind fun r_1=>bif (!r_1.1) then some false else
 bif (!(a_e.nm.toList==(⟨#[]⟩:ByteArray).toList)) then some false else
 bif (decide (a_e.op=(1:Int))) then bif (decide (a_e.int=(0:Int))) then (qa a_e.v).bind fun r_6=>some r_6 else
 some false else
 bif (decide (a_e.op=(24:Int))) then bif (decide (a_e.int<(0:Int))) then some false else
 bif (decide ((13:Int)<=a_e.int)) then some false else
 some (dS [.c (.int .i64 a_e.v.kind), .c (.int .i64 a_e.v.int), .c (.str a_e.v.text)] [.c (.int .i64 (0:Int)), .c (.int .i64 (0:Int)), .c (.str ByteArray.empty)]) else
 bif (decide (a_e.op=(2:Int))) then some (dS [.c (.int .i64 a_e.v.kind), .c (.int .i64 a_e.v.int), .c (.str a_e.v.text)] [.c (.int .i64 (0:Int)), .c (.int .i64 (0:Int)), .c (.str ByteArray.empty)]) else
 bif (decide (a_e.int=(0:Int))) then some (dS [.c (.int .i64 a_e.v.kind), .c (.int .i64 a_e.v.int), .c (.str a_e.v.text)] [.c (.int .i64 (0:Int)), .c (.int .i64 (0:Int)), .c (.str ByteArray.empty)]) else
 some false
theorem EF {a_e:Ex} {r:Bool} (H:pq a_e=some r):Pure Tryz.prog 111 [.agg (tE a_e)] (.val (.one (.bool r))):=by
 unfold pq at H
 rw [tE_eq a_e]
 refine po_ Tryz.func111 Tryz.ntmps111 ?_
 obtain ⟨r_1,c1,H⟩:=bd_ H
 replace c1:=FN c1
 rcases cnd_ H with ⟨q_2,H⟩|⟨q_2,H⟩
 ·cases H
  exact go_
 rcases cnd_ H with ⟨q_3,H⟩|⟨q_3,H⟩
 ·cases H
  exact go_
 refine bC ?_
 rcases cnd_ H with ⟨q_4,H⟩|⟨q_4,H⟩
 ·rcases cnd_ H with ⟨q_5,H⟩|⟨q_5,H⟩
  ·obtain ⟨r_6,c2,H⟩:=bd_ H
   replace c2:=yT c2
   cases H
   exact go_
  cases H
  exact go_
 rcases cnd_ H with ⟨q_7,H⟩|⟨q_7,H⟩
 ·rcases cnd_ H with ⟨q_8,H⟩|⟨q_8,H⟩
  ·cases H
   exact go_
  refine bC ?_
  rcases cnd_ H with ⟨q_9,H⟩|⟨q_9,H⟩
  ·cases H
   exact go_
  cases H
  exact go_
 rcases cnd_ H with ⟨q_10,H⟩|⟨q_10,H⟩
 ·cases H
  exact go_
 refine bC ?_
 rcases cnd_ H with ⟨q_11,H⟩|⟨q_11,H⟩
 ·cases H
  exact go_
 cases H
 exact go_
set_option maxHeartbeats 8000000
def sM (a_a:Val) (a_b:Val) (a_is:Bool):Option (Int):=bif (decide (a_a.kind=(0:Int))) then some (1:Int) else
 bif (decide (a_a.kind≠a_b.kind)) then some (1:Int) else
 bif a_is then some (2:Int) else
 some (0:Int)
theorem FR {a_a:Val} {a_b:Val} {a_is:Bool} {r:Int} (H:sM a_a a_b a_is=some r):Pure Tryz.prog 190 [.agg (cV a_a), .agg (cV a_b), .one (.bool a_is)] (.val (.one (.int .i64 r))):=by
 unfold sM at H
 refine po_ Tryz.func190 Tryz.ntmps190 ?_
 rcases cnd_ H with ⟨q_1,H⟩|⟨q_1,H⟩
 ·cases H
  exact go_
 rcases cnd_ H with ⟨q_2,H⟩|⟨q_2,H⟩
 ·cases H
  exact go_
 rcases cnd_ H with ⟨q_3,H⟩|⟨q_3,H⟩
 ·cases H
  exact go_
 cases H
 exact go_
def Rp (a_a:Val) (a_b:Val):Option (Int):=(ww a_a a_b).bind fun r_1=>(sM a_a a_b (decide (r_1=(0:Int)))).bind fun r_2=>some r_2
theorem Qy {a_a:Val} {a_b:Val} {r:Int} (H:Rp a_a a_b=some r):Pure Tryz.prog 162 [.agg (cV a_a), .agg (cV a_b)] (.val (.one (.int .i64 r))):=by
 unfold Rp at H
 refine po_ Tryz.func162 Tryz.ntmps162 ?_
 obtain ⟨r_1,c1,H⟩:=bd_ H
 replace c1:=zR c1
 obtain ⟨r_2,c2,H⟩:=bd_ H
 replace c2:=FR c2
 cases H
 exact go_
def uN (a_a:Val) (a_b:Val):Option (Int):=(ww a_a a_b).bind fun r_1=>(sM a_a a_b (decide (r_1<(0:Int)))).bind fun r_2=>some r_2
theorem xJ {a_a:Val} {a_b:Val} {r:Int} (H:uN a_a a_b=some r):Pure Tryz.prog 163 [.agg (cV a_a), .agg (cV a_b)] (.val (.one (.int .i64 r))):=by
 unfold uN at H
 refine po_ Tryz.func163 Tryz.ntmps163 ?_
 obtain ⟨r_1,c1,H⟩:=bd_ H
 replace c1:=zR c1
 obtain ⟨r_2,c2,H⟩:=bd_ H
 replace c2:=FR c2
 cases H
 exact go_
def p8 (a_t:Int):Option (Int):=bif (decide (a_t≠(0:Int))) then bif (decide (a_t≠(2:Int))) then some (1:Int) else
 some a_t else
 some a_t
theorem yM {a_t:Int} {r:Int} (H:p8 a_t=some r):Pure Tryz.prog 161 [.one (.int .i64 a_t)] (.val (.one (.int .i64 r))):=by
 unfold p8 at H
 refine po_ Tryz.func161 Tryz.ntmps161 ?_
 rcases cnd_ H with ⟨q_1,H⟩|⟨q_1,H⟩
 ·rcases cnd_ H with ⟨q_2,H⟩|⟨q_2,H⟩
  ·cases H
   exact go_
  cases H
  exact go_
 cases H
 exact go_
def Hu (a_a:Int):Option (Int):=(p8 a_a).bind fun r_1=>some (IntKind.i64.wrap ((2:Int)-r_1))
theorem ul {a_a:Int} {r:Int} (H:Hu a_a=some r):Pure Tryz.prog 154 [.one (.int .i64 a_a)] (.val (.one (.int .i64 r))):=by
 unfold Hu at H
 refine po_ Tryz.func154 Tryz.ntmps154 ?_
 obtain ⟨r_1,c1,H⟩:=bd_ H
 replace c1:=yM c1
 cases H
 exact go_
def xh (a_l:(List Int)):(Int × Int)->Option (Step (Int × Int) (Int)):=fun s=>match s with
 | (t_1,v_2)=>bif (decide (v_2<((a_l.length:Nat):Int))) then (aL a_l v_2).bind fun x_4=>(p8 x_4).bind fun r_5=>some (.next ((WV t_1 r_5),(IntKind.i64.wrap (v_2+(1:Int))))) else
 some (.exit (t_1,v_2))
def Cw:Sum (Int × Int) (Int)->Option ((Int))
 | .inl (t_1,v_2)=>some t_1
 | .inr q=>some q
def BH (a_l:(List Int)):Option (Int):=(ax (xh a_l) fuel ((2:Int),(0:Int))).bind (Cw)
theorem Jy {a_l:(List Int)} {r:Int} (H:BH a_l=some r):Pure Tryz.prog 188 [.one (.lst (a_l.map (fun x=>[AC.int .i64 x])))] (.val (.one (.int .i64 r))):=by
 unfold BH at H
 refine po_ Tryz.func188 Tryz.ntmps188 ?_
 refine bC ?_
 refine alM_ (fun s:Int × Int=>match s with|(t_1,v_2)=>[(3, .one (.c (.int .i64 t_1))),(6, .one (.c (.lst (a_l.map (fun x=>[AC.int .i64 x]))))),(7, .one (.c (.int .i64 ((a_l.length:Nat):Int)))),(8, .one (.c (.int .i64 v_2)))]) (fun s=>match s with|(t_1,v_2)=>[]) H (fun _=>abv _)
  (fm_ bV [] rfl bE trivial) ?_
 rintro ⟨t_1,v_2⟩ st1 hb1 hk1
 unfold xh at hb1
 dsimp only at hb1 ⊢
 rcases cnd_ hb1 with ⟨q_3,hb1⟩|⟨q_3,hb1⟩
 ·obtain ⟨x_4,i1z,i1,i1x,hb1⟩:=aX (f:=(fun x=>[AC.int .i64 x])) hb1
  obtain ⟨r_5,c2,hb1⟩:=bd_ hb1
  replace c2:=yM c2
  cases hb1
  refine bC ?_
  exact ⟨_,rfl,fm_ bV [] rfl bE trivial⟩
 cases hb1
 have hx1:Cw (.inl (t_1,v_2))=some _:=hk1
 unfold Cw at hx1
 dsimp only at hx1
 cases hx1
 exact go_
def Pb (a_a:Int) (a_b:Int):Option (Int):=(BH [a_a,a_b]).bind fun r_1=>some r_1
theorem Wo {a_a:Int} {a_b:Int} {r:Int} (H:Pb a_a a_b=some r):Pure Tryz.prog 155 [.one (.int .i64 a_a), .one (.int .i64 a_b)] (.val (.one (.int .i64 r))):=by
 unfold Pb at H
 refine po_ Tryz.func155 Tryz.ntmps155 ?_
 obtain ⟨r_1,c1,H⟩:=bd_ H
 replace c1:=Jy c1
 try simp only [abm,abk,abo,abd,tE_eq,tP_eq] at c1
 cases H
 exact go_
def Gy (a_a:Int) (a_b:Int):Option (Int):=(Hu a_a).bind fun r_1=>(Hu a_b).bind fun r_2=>(BH [r_1,r_2]).bind fun r_3=>(Hu r_3).bind fun r_4=>some r_4
theorem SS {a_a:Int} {a_b:Int} {r:Int} (H:Gy a_a a_b=some r):Pure Tryz.prog 156 [.one (.int .i64 a_a), .one (.int .i64 a_b)] (.val (.one (.int .i64 r))):=by
 unfold Gy at H
 refine po_ Tryz.func156 Tryz.ntmps156 ?_
 obtain ⟨r_1,c1,H⟩:=bd_ H
 replace c1:=ul c1
 obtain ⟨r_2,c2,H⟩:=bd_ H
 replace c2:=ul c2
 obtain ⟨r_3,c3,H⟩:=bd_ H
 replace c3:=Jy c3
 try simp only [abm,abk,abo,abd,tE_eq,tP_eq] at c3
 obtain ⟨r_4,c4,H⟩:=bd_ H
 replace c4:=ul c4
 cases H
 exact go_
def lK (a_v:Val):Option (Int):=(vL true).bind fun r_1=>bif (dS [.c (.int .i64 a_v.kind), .c (.int .i64 a_v.int), .c (.str a_v.text)] [.c (.int .i64 r_1.kind), .c (.int .i64 r_1.int), .c (.str r_1.text)]) then some (2:Int) else
 (vL false).bind fun r_3=>bif (dS [.c (.int .i64 a_v.kind), .c (.int .i64 a_v.int), .c (.str a_v.text)] [.c (.int .i64 r_3.kind), .c (.int .i64 r_3.int), .c (.str r_3.text)]) then some (0:Int) else
 some (1:Int)
theorem oO {a_v:Val} {r:Int} (H:lK a_v=some r):Pure Tryz.prog 108 [.agg (cV a_v)] (.val (.one (.int .i64 r))):=by
 unfold lK at H
 refine po_ Tryz.func108 Tryz.ntmps108 ?_
 obtain ⟨r_1,c1,H⟩:=bd_ H
 replace c1:=rW c1
 rcases cnd_ H with ⟨q_2,H⟩|⟨q_2,H⟩
 ·cases H
  exact go_
 obtain ⟨r_3,c2,H⟩:=bd_ H
 replace c2:=rW c2
 rcases cnd_ H with ⟨q_4,H⟩|⟨q_4,H⟩
 ·cases H
  exact go_
 cases H
 exact go_
def zQ (a_t:Int):Option (Val):=(p8 a_t).bind fun r_1=>bif (decide (r_1=(1:Int))) then (kL ).bind fun r_3=>some r_3 else
 (vL (decide (r_1=(2:Int)))).bind fun r_4=>some r_4
theorem Ai {a_t:Int} {r:Val} (H:zQ a_t=some r):Pure Tryz.prog 118 [.one (.int .i64 a_t)] (.val (.agg (cV r))):=by
 unfold zQ at H
 refine po_ Tryz.func118 Tryz.ntmps118 ?_
 obtain ⟨r_1,c1,H⟩:=bd_ H
 replace c1:=yM c1
 rcases cnd_ H with ⟨q_2,H⟩|⟨q_2,H⟩
 ·obtain ⟨r_3,c2,H⟩:=bd_ H
  replace c2:=ed c2
  cases H
  exact go_
 obtain ⟨r_4,c3,H⟩:=bd_ H
 replace c3:=rW c3
 cases H
 exact go_
set_option maxHeartbeats 8000000
def l9 (a_op:Int) (a_a:Val) (a_b:Val):Option (Int):=bif (decide (a_op=(7:Int))) then (Rp a_a a_b).bind fun r_2=>some r_2 else
 bif (decide (a_op=(8:Int))) then (Rp a_a a_b).bind fun r_4=>(Hu r_4).bind fun r_5=>some r_5 else
 bif (decide (a_op=(9:Int))) then (uN a_a a_b).bind fun r_7=>some r_7 else
 bif (decide (a_op=(11:Int))) then (uN a_b a_a).bind fun r_9=>some r_9 else
 bif (decide (a_op=(10:Int))) then (uN a_b a_a).bind fun r_11=>(Hu r_11).bind fun r_12=>some r_12 else
 (uN a_a a_b).bind fun r_13=>(Hu r_13).bind fun r_14=>some r_14
theorem Gt {a_op:Int} {a_a:Val} {a_b:Val} {r:Int} (H:l9 a_op a_a a_b=some r):Pure Tryz.prog 119 [.one (.int .i64 a_op), .agg (cV a_a), .agg (cV a_b)] (.val (.one (.int .i64 r))):=by
 unfold l9 at H
 refine po_ Tryz.func119 Tryz.ntmps119 ?_
 rcases cnd_ H with ⟨q_1,H⟩|⟨q_1,H⟩
 ·obtain ⟨r_2,c1,H⟩:=bd_ H
  replace c1:=Qy c1
  cases H
  exact go_
 rcases cnd_ H with ⟨q_3,H⟩|⟨q_3,H⟩
 ·obtain ⟨r_4,c2,H⟩:=bd_ H
  replace c2:=Qy c2
  obtain ⟨r_5,c3,H⟩:=bd_ H
  replace c3:=ul c3
  cases H
  exact go_
 refine bC ?_
 rcases cnd_ H with ⟨q_6,H⟩|⟨q_6,H⟩
 ·obtain ⟨r_7,c4,H⟩:=bd_ H
  replace c4:=xJ c4
  cases H
  exact go_
 rcases cnd_ H with ⟨q_8,H⟩|⟨q_8,H⟩
 ·obtain ⟨r_9,c5,H⟩:=bd_ H
  replace c5:=xJ c5
  cases H
  exact go_
 rcases cnd_ H with ⟨q_10,H⟩|⟨q_10,H⟩
 ·obtain ⟨r_11,c6,H⟩:=bd_ H
  replace c6:=xJ c6
  obtain ⟨r_12,c7,H⟩:=bd_ H
  replace c7:=ul c7
  cases H
  exact go_
 obtain ⟨r_13,c8,H⟩:=bd_ H
 replace c8:=xJ c8
 obtain ⟨r_14,c9,H⟩:=bd_ H
 replace c9:=ul c9
 cases H
 exact go_
def xq (a_l:(List Val)):(Int × ByteArray × Int)->Option (Step (Int × ByteArray × Int) (Val)):=fun s=>match s with
 | (n_1,s_2,v_3)=>bif (decide (v_3<((a_l.length:Nat):Int))) then (aL a_l v_3).bind fun x_5=>bif (decide (x_5.kind≠(2:Int))) then (kL ).bind fun r_7=>some (.ret r_7) else
 bif (decide (s_2.size+x_5.text.size<=9223372036854775807)) then (some (.next ((IntKind.i64.wrap (n_1+((x_5.text.size:Nat):Int))),(s_2++x_5.text),(IntKind.i64.wrap (v_3+(1:Int)))))) else none else
 some (.exit (n_1,s_2,v_3))
def nL (a_op:Int):Sum (Int × ByteArray × Int) (Val)->Option ((Val))
 | .inl (n_1,s_2,v_3)=>bif (decide (a_op=(20:Int))) then (mK n_1).bind fun r_9=>some r_9 else
 (BV s_2).bind fun r_10=>some r_10
 | .inr q=>some q
def wD (a_op:Int) (a_l:(List Val)):Option (Val):=(ax (xq a_l) fuel ((0:Int),(⟨#[]⟩:ByteArray),(0:Int))).bind (nL a_op)
theorem IW {a_op:Int} {a_l:(List Val)} {r:Val} (H:wD a_op a_l=some r):Pure Tryz.prog 116 [.one (.int .i64 a_op), .one (.lst (a_l.map cV))] (.val (.agg (cV r))):=by
 unfold wD at H
 refine po_ Tryz.func116 Tryz.ntmps116 ?_
 refine bC ?_
 refine alM_ (fun s:Int × ByteArray × Int=>match s with|(n_1,s_2,v_3)=>[(0, .one (.c (.int .i64 a_op))),(4, .one (.ptr 0 0)),(5, .one (.c (.int .i64 n_1))),(6, .one (.c (.str s_2))),(9, .one (.c (.lst (a_l.map cV)))),(10, .one (.c (.int .i64 ((a_l.length:Nat):Int)))),(11, .one (.c (.int .i64 v_3)))]) (fun s=>match s with|(n_1,s_2,v_3)=>[.box [.c (.int .i64 (0:Int)), .c (.int .i64 (0:Int)), .c (.str ByteArray.empty)]]) H (fun _=>abv _)
  (fm_ bV [] rfl bE dw) ?_
 rintro ⟨n_1,s_2,v_3⟩ st1 hb1 hk1
 unfold xq at hb1
 dsimp only at hb1 ⊢
 rcases cnd_ hb1 with ⟨q_4,hb1⟩|⟨q_4,hb1⟩
 ·obtain ⟨x_5,i1z,i1,i1x,hb1⟩:=aX (f:=cV) hb1
  rcases cnd_ hb1 with ⟨q_6,hb1⟩|⟨q_6,hb1⟩
  ·obtain ⟨r_7,c2,hb1⟩:=bd_ hb1
   replace c2:=ed c2
   cases hb1
   have hx1:nL a_op (.inr r_7)=some _:=hk1
   unfold nL at hx1
   dsimp only at hx1
   cases hx1
   exact go_
  obtain ⟨g3,hb1⟩:=aK hb1
  cases hb1
  refine bC ?_
  exact ⟨_,rfl,fm_ bV [_] rfl bE dw⟩
 cases hb1
 have hx1:nL a_op (.inl (n_1,s_2,v_3))=some _:=hk1
 unfold nL at hx1
 dsimp only at hx1
 rcases cnd_ hx1 with ⟨q_8,hx1⟩|⟨q_8,hx1⟩
 ·obtain ⟨r_9,c4,hx1⟩:=bd_ hx1
  replace c4:=j5 c4
  cases hx1
  exact go_
 obtain ⟨r_10,c5,hx1⟩:=bd_ hx1
 replace c5:=RY c5
 cases hx1
 exact go_
def uL (a_a:Int) (a_b:Int):Option (Val):=bif (decide (a_a≠(0:Int))) then bif (decide ((SE a_a (IntKind.i64.wrap (0-a_a)))≠0)) then (bif (decide ((IntKind.i64.wrap ((1125899906842624:Int).tdiv (SE a_a (IntKind.i64.wrap (0-a_a)))))<(SE a_b (IntKind.i64.wrap (0-a_b))))) then (kL ).bind fun r_3=>some r_3 else
 (mK (IntKind.i64.wrap (a_a*a_b))).bind fun r_4=>some r_4) else none else
 (mK (IntKind.i64.wrap (a_a*a_b))).bind fun r_5=>some r_5
theorem L_ {a_a:Int} {a_b:Int} {r:Val} (H:uL a_a a_b=some r):Pure Tryz.prog 160 [.one (.int .i64 a_a), .one (.int .i64 a_b)] (.val (.agg (cV r))):=by
 unfold uL at H
 refine po_ Tryz.func160 Tryz.ntmps160 ?_
 rcases cnd_ H with ⟨q_1,H⟩|⟨q_1,H⟩
 ·obtain ⟨g1,H⟩:=aK H
  rcases cnd_ H with ⟨q_2,H⟩|⟨q_2,H⟩
  ·obtain ⟨r_3,c2,H⟩:=bd_ H
   replace c2:=ed c2
   cases H
   exact go_
  obtain ⟨r_4,c3,H⟩:=bd_ H
  replace c3:=j5 c3
  cases H
  exact go_
 obtain ⟨r_5,c4,H⟩:=bd_ H
 replace c4:=j5 c4
 cases H
 exact go_
set_option maxHeartbeats 8000000
def qF (a_l:(List Val)):(Int)->Option (Step (Int) (Val)):=fun s=>match s with
 | v_1=>bif (decide (v_1<((a_l.length:Nat):Int))) then (aL a_l v_1).bind fun x_3=>bif (decide (x_3.kind≠(1:Int))) then (kL ).bind fun r_5=>some (.ret r_5) else
 some (.next (IntKind.i64.wrap (v_1+(1:Int)))) else
 some (.exit v_1)
def nJ (a_op:Int) (a_l:(List Val)):Sum (Int) (Val)->Option ((Val))
 | .inl v_1=>(aL a_l (0:Int)).bind fun x_6=>(aL a_l (IntKind.i64.wrap (((a_l.length:Nat):Int)-(1:Int)))).bind fun x_7=>bif (decide (a_op=(13:Int))) then (mK (IntKind.i64.wrap (x_6.int+x_7.int))).bind fun r_9=>some r_9 else
 bif (decide (a_op=(14:Int))) then (mK (IntKind.i64.wrap (x_6.int-x_7.int))).bind fun r_11=>some r_11 else
 bif (decide (a_op=(15:Int))) then (uL x_6.int x_7.int).bind fun r_13=>some r_13 else
 bif (decide (a_op=(18:Int))) then (mK (IntKind.i64.wrap (0-x_6.int))).bind fun r_15=>some r_15 else
 bif (decide (x_7.int=(0:Int))) then (kL ).bind fun r_17=>some r_17 else
 bif (decide (a_op=(16:Int))) then bif (decide (x_7.int≠0)) then ((mK (IntKind.i64.wrap (x_6.int.tdiv x_7.int))).bind fun r_19=>some r_19) else none else
 bif (decide (x_7.int≠0)) then ((mK (x_6.int.tmod x_7.int)).bind fun r_20=>some r_20) else none
 | .inr q=>some q
def mF (a_op:Int) (a_l:(List Val)):Option (Val):=(ax (qF a_l) fuel (0:Int)).bind (nJ a_op a_l)
theorem nH {a_op:Int} {a_l:(List Val)} {r:Val} (H:mF a_op a_l=some r):Pure Tryz.prog 117 [.one (.int .i64 a_op), .one (.lst (a_l.map cV))] (.val (.agg (cV r))):=by
 unfold mF at H
 refine po_ Tryz.func117 Tryz.ntmps117 ?_
 refine bC ?_
 refine alM_ (fun s:Int=>match s with|v_1=>[(0, .one (.c (.int .i64 a_op))),(1, .one (.c (.lst (a_l.map cV)))),(4, .one (.ptr 0 0)),(9, .one (.c (.lst (a_l.map cV)))),(10, .one (.c (.int .i64 ((a_l.length:Nat):Int)))),(11, .one (.c (.int .i64 v_1)))]) (fun s=>match s with|v_1=>[.box [.c (.int .i64 (0:Int)), .c (.int .i64 (0:Int)), .c (.str ByteArray.empty)]]) H (fun _=>abv _)
  (fm_ bV [] rfl bE dw) ?_
 rintro v_1 st1 hb1 hk1
 unfold qF at hb1
 dsimp only at hb1 ⊢
 rcases cnd_ hb1 with ⟨q_2,hb1⟩|⟨q_2,hb1⟩
 ·obtain ⟨x_3,i1z,i1,i1x,hb1⟩:=aX (f:=cV) hb1
  rcases cnd_ hb1 with ⟨q_4,hb1⟩|⟨q_4,hb1⟩
  ·obtain ⟨r_5,c2,hb1⟩:=bd_ hb1
   replace c2:=ed c2
   cases hb1
   have hx1:nJ a_op a_l (.inr r_5)=some _:=hk1
   unfold nJ at hx1
   dsimp only at hx1
   cases hx1
   exact go_
  cases hb1
  refine bC ?_
  exact ⟨_,rfl,fm_ bV [_] rfl bE dw⟩
 cases hb1
 have hx1:nJ a_op a_l (.inl v_1)=some _:=hk1
 unfold nJ at hx1
 dsimp only at hx1
 obtain ⟨x_6,i3z,i3,i3x,hx1⟩:=aX (f:=cV) hx1
 obtain ⟨x_7,i4z,i4,i4x,hx1⟩:=aX (f:=cV) hx1
 rcases cnd_ hx1 with ⟨q_8,hx1⟩|⟨q_8,hx1⟩
 ·obtain ⟨r_9,c5,hx1⟩:=bd_ hx1
  replace c5:=j5 c5
  cases hx1
  exact go_
 refine bC ?_
 rcases cnd_ hx1 with ⟨q_10,hx1⟩|⟨q_10,hx1⟩
 ·obtain ⟨r_11,c6,hx1⟩:=bd_ hx1
  replace c6:=j5 c6
  cases hx1
  exact go_
 rcases cnd_ hx1 with ⟨q_12,hx1⟩|⟨q_12,hx1⟩
 ·obtain ⟨r_13,c7,hx1⟩:=bd_ hx1
  replace c7:=L_ c7
  cases hx1
  exact go_
 rcases cnd_ hx1 with ⟨q_14,hx1⟩|⟨q_14,hx1⟩
 ·obtain ⟨r_15,c8,hx1⟩:=bd_ hx1
  replace c8:=j5 c8
  cases hx1
  exact go_
 refine bC ?_
 rcases cnd_ hx1 with ⟨q_16,hx1⟩|⟨q_16,hx1⟩
 ·obtain ⟨r_17,c9,hx1⟩:=bd_ hx1
  replace c9:=ed c9
  cases hx1
  exact go_
 rcases cnd_ hx1 with ⟨q_18,hx1⟩|⟨q_18,hx1⟩
 ·obtain ⟨g10,hx1⟩:=aK hx1
  obtain ⟨r_19,c11,hx1⟩:=bd_ hx1
  replace c11:=j5 c11
  cases hx1
  exact go_
 obtain ⟨g12,hx1⟩:=aK hx1
 obtain ⟨r_20,c13,hx1⟩:=bd_ hx1
 replace c13:=j5 c13
 cases hx1
 exact go_
set_option maxHeartbeats 8000000
def wO (s_7:(List Val)):(Int × Int)->Option (Step (Int × Int) (Val)):=fun s=>match s with
 | (t_8,v_9)=>bif (decide (v_9<((s_7.length:Nat):Int))) then (aL s_7 v_9).bind fun x_11=>(lK x_11).bind fun r_12=>(Pb t_8 r_12).bind fun r_13=>some (.next (r_13,(IntKind.i64.wrap (v_9+(1:Int))))) else
 some (.exit (t_8,v_9))
def Cf:Sum (Int × Int) (Val)->Option ((Val))
 | .inl (t_8,v_9)=>(zQ t_8).bind fun r_14=>some r_14
 | .inr q=>some q
def xw (s_15:(List Val)):(Int × Int)->Option (Step (Int × Int) (Val)):=fun s=>match s with
 | (t_16,v_17)=>bif (decide (v_17<((s_15.length:Nat):Int))) then (aL s_15 v_17).bind fun x_19=>(lK x_19).bind fun r_20=>(Gy t_16 r_20).bind fun r_21=>some (.next (r_21,(IntKind.i64.wrap (v_17+(1:Int))))) else
 some (.exit (t_16,v_17))
def Cg:Sum (Int × Int) (Val)->Option ((Val))
 | .inl (t_16,v_17)=>(zQ t_16).bind fun r_22=>some r_22
 | .inr q=>some q
def oU (a_op:Int) (a_l:(List Val)):Option (Val):=(aL a_l (0:Int)).bind fun x_1=>(lK x_1).bind fun r_2=>bif (decide (a_op=(4:Int))) then (Hu r_2).bind fun r_4=>(zQ r_4).bind fun r_5=>some r_5 else
 bif (decide (a_op=(5:Int))) then (jE a_l (1:Int) ((a_l.length:Nat):Int)).bind fun s_7=>(ax (wO s_7) fuel (r_2,(0:Int))).bind (Cf) else
 (jE a_l (1:Int) ((a_l.length:Nat):Int)).bind fun s_15=>(ax (xw s_15) fuel (r_2,(0:Int))).bind (Cg)
theorem BD {a_op:Int} {a_l:(List Val)} {r:Val} (H:oU a_op a_l=some r):Pure Tryz.prog 113 [.one (.int .i64 a_op), .one (.lst (a_l.map cV))] (.val (.agg (cV r))):=by
 unfold oU at H
 refine po_ Tryz.func113 Tryz.ntmps113 ?_
 obtain ⟨x_1,i1z,i1,i1x,H⟩:=aX (f:=cV) H
 obtain ⟨r_2,c2,H⟩:=bd_ H
 replace c2:=oO c2
 rcases cnd_ H with ⟨q_3,H⟩|⟨q_3,H⟩
 ·obtain ⟨r_4,c3,H⟩:=bd_ H
  replace c3:=ul c3
  obtain ⟨r_5,c4,H⟩:=bd_ H
  replace c4:=Ai c4
  cases H
  exact go_
 rcases cnd_ H with ⟨q_6,H⟩|⟨q_6,H⟩
 ·obtain ⟨s_7,u5,H⟩:=bd_ H
  obtain ⟨⟨u5a,u5b,u5c⟩,u5⟩:=eO u5
  have u5x:=DD (f:=cV) u5
  repeat' (first|refine gs_ ?_|rw [u5x]|rw [show ((0:Nat):Int)=0 from rfl])
  refine alM_ (fun s:Int × Int=>match s with|(t_8,v_9)=>[(4, .one (.ptr 0 0)),(5, .one (.c (.int .i64 t_8))),(35, .one (.c (.lst (s_7.map cV)))),(36, .one (.c (.int .i64 ((s_7.length:Nat):Int)))),(37, .one (.c (.int .i64 v_9)))]) (fun s=>match s with|(t_8,v_9)=>[.box [.c (.int .i64 (0:Int)), .c (.int .i64 (0:Int)), .c (.str ByteArray.empty)]]) H (fun _=>abv _)
   (fm_ bV [] rfl bE dw) ?_
  rintro ⟨t_8,v_9⟩ st1 hb1 hk1
  unfold wO at hb1
  dsimp only at hb1 ⊢
  repeat' (first|refine gs_ ?_|rw [u5x]|rw [show ((0:Nat):Int)=0 from rfl])
  rcases cnd_ hb1 with ⟨q_10,hb1⟩|⟨q_10,hb1⟩
  ·obtain ⟨x_11,i6z,i6,i6x,hb1⟩:=aX (f:=cV) hb1
   obtain ⟨r_12,c7,hb1⟩:=bd_ hb1
   replace c7:=oO c7
   obtain ⟨r_13,c8,hb1⟩:=bd_ hb1
   replace c8:=Wo c8
   cases hb1
   repeat' (first|refine gs_ ?_|rw [u5x]|rw [show ((0:Nat):Int)=0 from rfl])
   exact ⟨_,rfl,fm_ bV [_] rfl bE dw⟩
  cases hb1
  have hx1:Cf (.inl (t_8,v_9))=some _:=hk1
  unfold Cf at hx1
  dsimp only at hx1
  obtain ⟨r_14,c9,hx1⟩:=bd_ hx1
  replace c9:=Ai c9
  cases hx1
  repeat' (first|refine gs_ ?_|rw [u5x]|rw [show ((0:Nat):Int)=0 from rfl])
  refine aO (aR rfl ?_ ?_)
  ·repeat' (first|exact trivial|rfl|exact abj rfl|omega|apply And.intro)
  ·first|rfl|(simp only [abm,abk,abo,abd]<;>rfl)
 obtain ⟨s_15,u10,H⟩:=bd_ H
 obtain ⟨⟨u10a,u10b,u10c⟩,u10⟩:=eO u10
 have u10x:=DD (f:=cV) u10
 repeat' (first|refine gs_ ?_|rw [u10x]|rw [show ((0:Nat):Int)=0 from rfl])
 refine alM_ (fun s:Int × Int=>match s with|(t_16,v_17)=>[(4, .one (.ptr 0 0)),(5, .one (.c (.int .i64 t_16))),(16, .one (.c (.lst (s_15.map cV)))),(17, .one (.c (.int .i64 ((s_15.length:Nat):Int)))),(18, .one (.c (.int .i64 v_17)))]) (fun s=>match s with|(t_16,v_17)=>[.box [.c (.int .i64 (0:Int)), .c (.int .i64 (0:Int)), .c (.str ByteArray.empty)]]) H (fun _=>abv _)
  (fm_ bV [] rfl bE dw) ?_
 rintro ⟨t_16,v_17⟩ st2 hb2 hk2
 unfold xw at hb2
 dsimp only at hb2 ⊢
 repeat' (first|refine gs_ ?_|rw [u10x]|rw [show ((0:Nat):Int)=0 from rfl])
 rcases cnd_ hb2 with ⟨q_18,hb2⟩|⟨q_18,hb2⟩
 ·obtain ⟨x_19,i11z,i11,i11x,hb2⟩:=aX (f:=cV) hb2
  obtain ⟨r_20,c12,hb2⟩:=bd_ hb2
  replace c12:=oO c12
  obtain ⟨r_21,c13,hb2⟩:=bd_ hb2
  replace c13:=SS c13
  cases hb2
  repeat' (first|refine gs_ ?_|rw [u10x]|rw [show ((0:Nat):Int)=0 from rfl])
  exact ⟨_,rfl,fm_ bV [_] rfl bE dw⟩
 cases hb2
 have hx2:Cg (.inl (t_16,v_17))=some _:=hk2
 unfold Cg at hx2
 dsimp only at hx2
 obtain ⟨r_22,c14,hx2⟩:=bd_ hx2
 replace c14:=Ai c14
 cases hx2
 repeat' (first|refine gs_ ?_|rw [u10x]|rw [show ((0:Nat):Int)=0 from rfl])
 refine aO (aR rfl ?_ ?_)
 ·repeat' (first|exact trivial|rfl|exact abj rfl|omega|apply And.intro)
 ·first|rfl|(simp only [abm,abk,abo,abd]<;>rfl)
set_option maxHeartbeats 8000000
def Yt (a_row:(List Val)) (a_i:Int):Option (Val):=bif (decide (a_i<(0:Int))) then (kL ).bind fun r_2=>some r_2 else
 bif (decide (((a_row.length:Nat):Int)<=a_i)) then (kL ).bind fun r_4=>some r_4 else
 (aL a_row a_i).bind fun x_5=>some x_5
theorem XU {a_row:(List Val)} {a_i:Int} {r:Val} (H:Yt a_row a_i=some r):Pure Tryz.prog 92 [.one (.lst (a_row.map cV)), .one (.int .i64 a_i)] (.val (.agg (cV r))):=by
 unfold Yt at H
 refine po_ Tryz.func92 Tryz.ntmps92 ?_
 rcases cnd_ H with ⟨q_1,H⟩|⟨q_1,H⟩
 ·obtain ⟨r_2,c1,H⟩:=bd_ H
  replace c1:=ed c1
  cases H
  exact go_
 rcases cnd_ H with ⟨q_3,H⟩|⟨q_3,H⟩
 ·obtain ⟨r_4,c2,H⟩:=bd_ H
  replace c2:=ed c2
  cases H
  exact go_
 obtain ⟨x_5,i3z,i3,i3x,H⟩:=aX (f:=cV) H
 cases H
 exact go_
def zP (a_row:(List Val)) (a_l:(List Int)):((List Val) × Int)->Option (Step ((List Val) × Int) ((List Val))):=fun s=>match s with
 | (out_1,v_2)=>bif (decide (v_2<((a_l.length:Nat):Int))) then (aL a_l v_2).bind fun x_4=>(Yt a_row x_4).bind fun r_5=>bif (decide (out_1.length+1<=4398046511104)) then (some (.next ((out_1++[r_5]),(IntKind.i64.wrap (v_2+(1:Int)))))) else none else
 some (.exit (out_1,v_2))
def Gi:Sum ((List Val) × Int) ((List Val))->Option (((List Val)))
 | .inl (out_1,v_2)=>some out_1
 | .inr q=>some q
def Ll (a_row:(List Val)) (a_l:(List Int)):Option ((List Val)):=bif (decide (0<=((a_l.length:Nat):Int))) then (bif (decide ((32:Int)*((a_l.length:Nat):Int)<=281474976710656)) then (bif (decide (((a_l.length:Nat):Int)<=9223372036854775807)) then ((ax (zP a_row a_l) fuel ([],(0:Int))).bind (Gi)) else none) else none) else none
theorem PN {p q:Prop} (k:q) (h:Bx q->p:=by
 intro hq
 repeat' (first|refine cZ rfl rfl rfl rfl rfl (lQ tab_ok (k:=3) (by_:=32) rfl rfl rfl rfl rfl rfl (by decide) (by omega) (by omega) (by omega)) ?_|refine gs_ ?_|fail)
 exact hq.out):p:=h ⟨k⟩
theorem VC {p:Prop} (h:p:=by
 repeat' (first|refine cZ rfl rfl rfl rfl rfl (lQ tab_ok (k:=3) (by_:=32) rfl rfl rfl rfl rfl rfl (by decide) (by omega) (by omega) (by omega)) ?_|refine gs_ ?_|fail)
 refine aO (aR rfl ?_ ?_)
 ·repeat' (first|exact trivial|rfl|exact abj rfl|omega|apply And.intro)
 ·first|rfl|(simp only [abm,abk,abo,abd]<;>rfl)):p:=h
theorem SF {a_row:(List Val)} {a_l:(List Int)} {r:(List Val)} (H:Ll a_row a_l=some r):Pure Tryz.prog 55 [.one (.lst (a_row.map cV)), .one (.lst (a_l.map (fun x=>[AC.int .i64 x])))] (.val (.one (.lst (r.map cV)))):=by
 unfold Ll at H
 refine po_ Tryz.func55 Tryz.ntmps55 ?_
 obtain ⟨g1,H⟩:=aK H
 obtain ⟨g2,H⟩:=aK H
 obtain ⟨g3,H⟩:=aK H
 refine PN ?_
 refine alM_ (fun s:(List Val) × Int=>match s with|(out_1,v_2)=>[(0, .one (.c (.lst (a_row.map cV)))),(5, .one (.own (out_1.map cV) 0)),(11, .one (.c (.lst (a_l.map (fun x=>[AC.int .i64 x]))))),(12, .one (.c (.int .i64 ((a_l.length:Nat):Int)))),(13, .one (.c (.int .i64 v_2)))]) (fun s=>match s with|(out_1,v_2)=>[.spare out_1.length 3]) H (fun _=>abv _)
  (fm_ bV [] rfl bE dw) ?_
 rintro ⟨out_1,v_2⟩ st1 hb1 hk1
 unfold zP at hb1
 dsimp only at hb1 ⊢
 rcases cnd_ hb1 with ⟨q_3,hb1⟩|⟨q_3,hb1⟩
 ·obtain ⟨x_4,i4z,i4,i4x,hb1⟩:=aX (f:=(fun x=>[AC.int .i64 x])) hb1
  obtain ⟨r_5,c5,hb1⟩:=bd_ hb1
  replace c5:=XU c5
  obtain ⟨g6,hb1⟩:=aK hb1
  cases hb1
  refine PN ?_
  exact ⟨_,rfl,fm_ o8 [] kJ bE dw⟩
 cases hb1
 have hx1:Gi (.inl (out_1,v_2))=some _:=hk1
 unfold Gi at hx1
 dsimp only at hx1
 cases hx1
 exact VC
def zK (a_row:(List Val)) (a_i:Int):Option (Val):=(Ll a_row [a_i]).bind fun r_1=>(aL r_1 (0:Int)).bind fun x_2=>(qa x_2).bind fun r_3=>bif (!r_3) then (kL ).bind fun r_5=>some r_5 else
 some x_2
theorem Oy {a_row:(List Val)} {a_i:Int} {r:Val} (H:zK a_row a_i=some r):Pure Tryz.prog 112 [.one (.lst (a_row.map cV)), .one (.int .i64 a_i)] (.val (.agg (cV r))):=by
 unfold zK at H
 refine po_ Tryz.func112 Tryz.ntmps112 ?_
 obtain ⟨r_1,c1,H⟩:=bd_ H
 replace c1:=SF c1
 try simp only [abm,abk,abo,abd,tE_eq,tP_eq] at c1
 obtain ⟨x_2,i2z,i2,i2x,H⟩:=aX (f:=cV) H
 obtain ⟨r_3,c3,H⟩:=bd_ H
 replace c3:=yT c3
 rcases cnd_ H with ⟨q_4,H⟩|⟨q_4,H⟩
 ·obtain ⟨r_5,c4,H⟩:=bd_ H
  replace c4:=ed c4
  cases H
  exact go_
 cases H
 exact go_
set_option maxHeartbeats 8000000
def TM (a_p:iQ) (a_q:iQ):Option (Int × Bool):=(Yr a_p).bind fun r_1=>bif (!r_1) then some ((0:Int),false) else
 (Yr a_q).bind fun r_3=>bif (!r_3) then some ((0:Int),false) else
 bif (decide (a_p.hi<a_q.lo)) then some ((0:Int),true) else
 bif (decide (a_p.hi=a_q.lo)) then some ((1:Int),true) else
 bif (decide (a_q.hi<a_p.lo)) then some ((12:Int),true) else
 bif (decide (a_q.hi=a_p.lo)) then some ((11:Int),true) else
 bif (dS [.c (.int .i64 a_p.lo), .c (.int .i64 a_p.hi)] [.c (.int .i64 a_q.lo), .c (.int .i64 a_q.hi)]) then some ((6:Int),true) else
 bif (decide (a_p.lo=a_q.lo)) then bif (decide (a_p.hi<a_q.hi)) then some ((3:Int),true) else
 some ((9:Int),true) else
 bif (decide (a_p.hi=a_q.hi)) then bif (decide (a_q.lo<a_p.lo)) then some ((5:Int),true) else
 some ((7:Int),true) else
 bif (decide (a_p.lo<a_q.lo)) then bif (decide (a_q.hi<a_p.hi)) then some ((8:Int),true) else
 bif (decide (a_q.lo<a_p.lo)) then bif (decide (a_p.hi<a_q.hi)) then some ((4:Int),true) else
 some ((2:Int),true) else
 some ((2:Int),true) else
 bif (decide (a_q.lo<a_p.lo)) then bif (decide (a_p.hi<a_q.hi)) then some ((4:Int),true) else
 some ((10:Int),true) else
 some ((10:Int),true)
theorem VU {a_p:iQ} {a_q:iQ} {r:Int × Bool} (H:TM a_p a_q=some r):Pure Tryz.prog 158 [.agg (yK a_p), .agg (yK a_q)] (.tup [.one (.int .i64 r.1), .one (.bool r.2)]):=by
 unfold TM at H
 refine po_ Tryz.func158 Tryz.ntmps158 ?_
 obtain ⟨r_1,c1,H⟩:=bd_ H
 replace c1:=U0 c1
 rcases cnd_ H with ⟨q_2,H⟩|⟨q_2,H⟩
 ·cases H
  exact go_
 obtain ⟨r_3,c2,H⟩:=bd_ H
 replace c2:=U0 c2
 rcases cnd_ H with ⟨q_4,H⟩|⟨q_4,H⟩
 ·cases H
  exact go_
 refine bC ?_
 rcases cnd_ H with ⟨q_5,H⟩|⟨q_5,H⟩
 ·cases H
  exact go_
 rcases cnd_ H with ⟨q_6,H⟩|⟨q_6,H⟩
 ·cases H
  exact go_
 rcases cnd_ H with ⟨q_7,H⟩|⟨q_7,H⟩
 ·cases H
  exact go_
 refine bC ?_
 rcases cnd_ H with ⟨q_8,H⟩|⟨q_8,H⟩
 ·cases H
  exact go_
 rcases cnd_ H with ⟨q_9,H⟩|⟨q_9,H⟩
 ·cases H
  exact go_
 rcases cnd_ H with ⟨q_10,H⟩|⟨q_10,H⟩
 ·refine bC ?_
  rcases cnd_ H with ⟨q_11,H⟩|⟨q_11,H⟩
  ·cases H
   exact go_
  cases H
  exact go_
 refine bC ?_
 rcases cnd_ H with ⟨q_12,H⟩|⟨q_12,H⟩
 ·rcases cnd_ H with ⟨q_13,H⟩|⟨q_13,H⟩
  ·cases H
   exact go_
  cases H
  exact go_
 rcases cnd_ H with ⟨q_14,H⟩|⟨q_14,H⟩
 ·rcases cnd_ H with ⟨q_15,H⟩|⟨q_15,H⟩
  ·cases H
   exact go_
  refine bC ?_
  rcases cnd_ H with ⟨q_16,H⟩|⟨q_16,H⟩
  ·rcases cnd_ H with ⟨q_17,H⟩|⟨q_17,H⟩
   ·cases H
    exact go_
   cases H
   exact go_
  cases H
  exact go_
 rcases cnd_ H with ⟨q_18,H⟩|⟨q_18,H⟩
 ·refine bC ?_
  rcases cnd_ H with ⟨q_19,H⟩|⟨q_19,H⟩
  ·cases H
   exact go_
  cases H
  exact go_
 cases H
 exact go_
end Go.Proofs.YtfpbmfalamappaaGreatDoor
