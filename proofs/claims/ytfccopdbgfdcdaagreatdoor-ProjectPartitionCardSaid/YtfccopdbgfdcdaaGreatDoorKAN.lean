/- Parts of the proof, joined. No condition. -/
import Derived.Test.YtfccopdbgfdcdaaGreatDoorKAM
set_option linter.unusedSimpArgs false
set_option linter.unusedVariables false
namespace Go.Proofs.YtfccopdbgfdcdaaGreatDoor
open Go.RowKit Go.MapKept
set_option maxRecDepth 100000
set_option maxHeartbeats 8000000
def gComparison (a_op:Int) (a_a:Val) (a_b:Val):Option (Int):=bif (decide (a_op=(7:Int))) then (gEqV a_a a_b).bind fun r_2=>some r_2 else
 bif (decide (a_op=(8:Int))) then (gEqV a_a a_b).bind fun r_4=>(gNot r_4).bind fun r_5=>some r_5 else
 bif (decide (a_op=(9:Int))) then (gLessV a_a a_b).bind fun r_7=>some r_7 else
 bif (decide (a_op=(11:Int))) then (gLessV a_b a_a).bind fun r_9=>some r_9 else
 bif (decide (a_op=(10:Int))) then (gLessV a_b a_a).bind fun r_11=>(gNot r_11).bind fun r_12=>some r_12 else
 (gLessV a_a a_b).bind fun r_13=>(gNot r_13).bind fun r_14=>some r_14
theorem gComparison_ok {a_op:Int} {a_a:Val} {a_b:Val} {r:Int} (H:gComparison a_op a_a a_b=some r):Pure Tryz.prog 87 [.one (.int .i64 a_op), .agg (cV a_a), .agg (cV a_b)] (.val (.one (.int .i64 r))):=by
 unfold gComparison at H
 refine po_ Tryz.func87 Tryz.ntmps87 ?_
 rcases cnd_ H with ⟨q_1,H⟩|⟨q_1,H⟩
 ·obtain ⟨r_2,c1,H⟩:=bd_ H
  replace c1:=gEqV_ok c1
  cases H
  exact go_
 rcases cnd_ H with ⟨q_3,H⟩|⟨q_3,H⟩
 ·obtain ⟨r_4,c2,H⟩:=bd_ H
  replace c2:=gEqV_ok c2
  obtain ⟨r_5,c3,H⟩:=bd_ H
  replace c3:=gNot_ok c3
  cases H
  exact go_
 refine gt_ ?_
 rcases cnd_ H with ⟨q_6,H⟩|⟨q_6,H⟩
 ·obtain ⟨r_7,c4,H⟩:=bd_ H
  replace c4:=gLessV_ok c4
  cases H
  exact go_
 rcases cnd_ H with ⟨q_8,H⟩|⟨q_8,H⟩
 ·obtain ⟨r_9,c5,H⟩:=bd_ H
  replace c5:=gLessV_ok c5
  cases H
  exact go_
 rcases cnd_ H with ⟨q_10,H⟩|⟨q_10,H⟩
 ·obtain ⟨r_11,c6,H⟩:=bd_ H
  replace c6:=gLessV_ok c6
  obtain ⟨r_12,c7,H⟩:=bd_ H
  replace c7:=gNot_ok c7
  cases H
  exact go_
 obtain ⟨r_13,c8,H⟩:=bd_ H
 replace c8:=gLessV_ok c8
 obtain ⟨r_14,c9,H⟩:=bd_ H
 replace c9:=gNot_ok c9
 cases H
 exact go_
def gTextE_B1 (a_l:(List Val)):(Int × ByteArray × Int)→Option (Step (Int × ByteArray × Int) (Val)):=fun s=>match s with
 | (n_1,s_2,v_3)=>bif (decide (v_3<((a_l.length:Nat):Int))) then (getI a_l v_3).bind fun x_5=>bif (decide (x_5.kind≠(2:Int))) then (gNull ).bind fun r_7=>some (.ret r_7) else
 bif (decide (s_2.size+x_5.text.size≤9223372036854775807)) then (some (.next ((IntKind.i64.wrap (n_1+((x_5.text.size:Nat):Int))),(s_2++x_5.text),(IntKind.i64.wrap (v_3+(1:Int)))))) else none else
 some (.exit (n_1,s_2,v_3))
def gTextE_K1 (a_op:Int):Sum (Int × ByteArray × Int) (Val)→Option ((Val))
 | .inl (n_1,s_2,v_3)=>bif (decide (a_op=(20:Int))) then (gIntP n_1).bind fun r_9=>some r_9 else
 (gTextP s_2).bind fun r_10=>some r_10
 | .inr q=>some q
def gTextE (a_op:Int) (a_l:(List Val)):Option (Val):=(loopM (gTextE_B1 a_l) fuel ((0:Int),(⟨#[]⟩:ByteArray),(0:Int))).bind (gTextE_K1 a_op)
theorem gTextE_ok {a_op:Int} {a_l:(List Val)} {r:Val} (H:gTextE a_op a_l=some r):Pure Tryz.prog 84 [.one (.int .i64 a_op), .one (.lst (a_l.map cV))] (.val (.agg (cV r))):=by
 unfold gTextE at H
 refine po_ Tryz.func84 Tryz.ntmps84 ?_
 refine gt_ ?_
 refine alM_ (fun s:Int × ByteArray × Int=>match s with|(n_1,s_2,v_3)=>[(0, .one (.c (.int .i64 a_op))),(4, .one (.ptr 0 0)),(5, .one (.c (.int .i64 n_1))),(6, .one (.c (.str s_2))),(9, .one (.c (.lst (a_l.map cV)))),(10, .one (.c (.int .i64 ((a_l.length:Nat):Int)))),(11, .one (.c (.int .i64 v_3)))]) (fun s=>match s with|(n_1,s_2,v_3)=>[.box [.c (.int .i64 (0:Int)), .c (.int .i64 (0:Int)), .c (.str ByteArray.empty)]]) H (fun _=>Nat.zero_le _)
  (fm_ br_ [] rfl bt_ bo_) ?_
 rintro ⟨n_1,s_2,v_3⟩ st1 hb1 hk1
 unfold gTextE_B1 at hb1
 dsimp only at hb1 ⊢
 rcases cnd_ hb1 with ⟨q_4,hb1⟩|⟨q_4,hb1⟩
 ·obtain ⟨x_5,i1z,i1,i1x,hb1⟩:=idx_ (f:=cV) hb1
  rcases cnd_ hb1 with ⟨q_6,hb1⟩|⟨q_6,hb1⟩
  ·obtain ⟨r_7,c2,hb1⟩:=bd_ hb1
   replace c2:=gNull_ok c2
   cases hb1
   have hx1:gTextE_K1 a_op (.inr r_7)=some _:=hk1
   unfold gTextE_K1 at hx1
   dsimp only at hx1
   cases hx1
   exact go_
  obtain ⟨g3,hb1⟩:=grd_d hb1
  cases hb1
  refine gt_ ?_
  exact ⟨_,rfl,fm_ br_ [_] rfl bt_ bo_⟩
 cases hb1
 have hx1:gTextE_K1 a_op (.inl (n_1,s_2,v_3))=some _:=hk1
 unfold gTextE_K1 at hx1
 dsimp only at hx1
 rcases cnd_ hx1 with ⟨q_8,hx1⟩|⟨q_8,hx1⟩
 ·obtain ⟨r_9,c4,hx1⟩:=bd_ hx1
  replace c4:=gIntP_ok c4
  cases hx1
  exact go_
 obtain ⟨r_10,c5,hx1⟩:=bd_ hx1
 replace c5:=gTextP_ok c5
 cases hx1
 exact go_
def gProduct (a_a:Int) (a_b:Int):Option (Val):=bif (decide (a_a≠(0:Int))) then bif (decide ((mxI a_a (IntKind.i64.wrap (0-a_a)))≠0)) then (bif (decide ((IntKind.i64.wrap ((1125899906842624:Int).tdiv (mxI a_a (IntKind.i64.wrap (0-a_a)))))<(mxI a_b (IntKind.i64.wrap (0-a_b))))) then (gNull ).bind fun r_3=>some r_3 else
 (gIntP (IntKind.i64.wrap (a_a*a_b))).bind fun r_4=>some r_4) else none else
 (gIntP (IntKind.i64.wrap (a_a*a_b))).bind fun r_5=>some r_5
theorem gProduct_ok {a_a:Int} {a_b:Int} {r:Val} (H:gProduct a_a a_b=some r):Pure Tryz.prog 132 [.one (.int .i64 a_a), .one (.int .i64 a_b)] (.val (.agg (cV r))):=by
 unfold gProduct at H
 refine po_ Tryz.func132 Tryz.ntmps132 ?_
 rcases cnd_ H with ⟨q_1,H⟩|⟨q_1,H⟩
 ·obtain ⟨g1,H⟩:=grd_d H
  rcases cnd_ H with ⟨q_2,H⟩|⟨q_2,H⟩
  ·obtain ⟨r_3,c2,H⟩:=bd_ H
   replace c2:=gNull_ok c2
   cases H
   exact go_
  obtain ⟨r_4,c3,H⟩:=bd_ H
  replace c3:=gIntP_ok c3
  cases H
  exact go_
 obtain ⟨r_5,c4,H⟩:=bd_ H
 replace c4:=gIntP_ok c4
 cases H
 exact go_
set_option maxHeartbeats 8000000
def gArith_B1 (a_l:(List Val)):(Int)→Option (Step (Int) (Val)):=fun s=>match s with
 | v_1=>bif (decide (v_1<((a_l.length:Nat):Int))) then (getI a_l v_1).bind fun x_3=>bif (decide (x_3.kind≠(1:Int))) then (gNull ).bind fun r_5=>some (.ret r_5) else
 some (.next (IntKind.i64.wrap (v_1+(1:Int)))) else
 some (.exit v_1)
def gArith_K1 (a_op:Int) (a_l:(List Val)):Sum (Int) (Val)→Option ((Val))
 | .inl v_1=>(getI a_l (0:Int)).bind fun x_6=>(getI a_l (IntKind.i64.wrap (((a_l.length:Nat):Int)-(1:Int)))).bind fun x_7=>bif (decide (a_op=(13:Int))) then (gIntP (IntKind.i64.wrap (x_6.int+x_7.int))).bind fun r_9=>some r_9 else
 bif (decide (a_op=(14:Int))) then (gIntP (IntKind.i64.wrap (x_6.int-x_7.int))).bind fun r_11=>some r_11 else
 bif (decide (a_op=(15:Int))) then (gProduct x_6.int x_7.int).bind fun r_13=>some r_13 else
 bif (decide (a_op=(18:Int))) then (gIntP (IntKind.i64.wrap (0-x_6.int))).bind fun r_15=>some r_15 else
 bif (decide (x_7.int=(0:Int))) then (gNull ).bind fun r_17=>some r_17 else
 bif (decide (a_op=(16:Int))) then bif (decide (x_7.int≠0)) then ((gIntP (IntKind.i64.wrap (x_6.int.tdiv x_7.int))).bind fun r_19=>some r_19) else none else
 bif (decide (x_7.int≠0)) then ((gIntP (x_6.int.tmod x_7.int)).bind fun r_20=>some r_20) else none
 | .inr q=>some q
def gArith (a_op:Int) (a_l:(List Val)):Option (Val):=(loopM (gArith_B1 a_l) fuel (0:Int)).bind (gArith_K1 a_op a_l)
theorem gArith_ok {a_op:Int} {a_l:(List Val)} {r:Val} (H:gArith a_op a_l=some r):Pure Tryz.prog 85 [.one (.int .i64 a_op), .one (.lst (a_l.map cV))] (.val (.agg (cV r))):=by
 unfold gArith at H
 refine po_ Tryz.func85 Tryz.ntmps85 ?_
 refine gt_ ?_
 refine alM_ (fun s:Int=>match s with|v_1=>[(0, .one (.c (.int .i64 a_op))),(1, .one (.c (.lst (a_l.map cV)))),(4, .one (.ptr 0 0)),(9, .one (.c (.lst (a_l.map cV)))),(10, .one (.c (.int .i64 ((a_l.length:Nat):Int)))),(11, .one (.c (.int .i64 v_1)))]) (fun s=>match s with|v_1=>[.box [.c (.int .i64 (0:Int)), .c (.int .i64 (0:Int)), .c (.str ByteArray.empty)]]) H (fun _=>Nat.zero_le _)
  (fm_ br_ [] rfl bt_ bo_) ?_
 rintro v_1 st1 hb1 hk1
 unfold gArith_B1 at hb1
 dsimp only at hb1 ⊢
 rcases cnd_ hb1 with ⟨q_2,hb1⟩|⟨q_2,hb1⟩
 ·obtain ⟨x_3,i1z,i1,i1x,hb1⟩:=idx_ (f:=cV) hb1
  rcases cnd_ hb1 with ⟨q_4,hb1⟩|⟨q_4,hb1⟩
  ·obtain ⟨r_5,c2,hb1⟩:=bd_ hb1
   replace c2:=gNull_ok c2
   cases hb1
   have hx1:gArith_K1 a_op a_l (.inr r_5)=some _:=hk1
   unfold gArith_K1 at hx1
   dsimp only at hx1
   cases hx1
   exact go_
  cases hb1
  refine gt_ ?_
  exact ⟨_,rfl,fm_ br_ [_] rfl bt_ bo_⟩
 cases hb1
 have hx1:gArith_K1 a_op a_l (.inl v_1)=some _:=hk1
 unfold gArith_K1 at hx1
 dsimp only at hx1
 obtain ⟨x_6,i3z,i3,i3x,hx1⟩:=idx_ (f:=cV) hx1
 obtain ⟨x_7,i4z,i4,i4x,hx1⟩:=idx_ (f:=cV) hx1
 rcases cnd_ hx1 with ⟨q_8,hx1⟩|⟨q_8,hx1⟩
 ·obtain ⟨r_9,c5,hx1⟩:=bd_ hx1
  replace c5:=gIntP_ok c5
  cases hx1
  exact go_
 refine gt_ ?_
 rcases cnd_ hx1 with ⟨q_10,hx1⟩|⟨q_10,hx1⟩
 ·obtain ⟨r_11,c6,hx1⟩:=bd_ hx1
  replace c6:=gIntP_ok c6
  cases hx1
  exact go_
 rcases cnd_ hx1 with ⟨q_12,hx1⟩|⟨q_12,hx1⟩
 ·obtain ⟨r_13,c7,hx1⟩:=bd_ hx1
  replace c7:=gProduct_ok c7
  cases hx1
  exact go_
 rcases cnd_ hx1 with ⟨q_14,hx1⟩|⟨q_14,hx1⟩
 ·obtain ⟨r_15,c8,hx1⟩:=bd_ hx1
  replace c8:=gIntP_ok c8
  cases hx1
  exact go_
 refine gt_ ?_
 rcases cnd_ hx1 with ⟨q_16,hx1⟩|⟨q_16,hx1⟩
 ·obtain ⟨r_17,c9,hx1⟩:=bd_ hx1
  replace c9:=gNull_ok c9
  cases hx1
  exact go_
 rcases cnd_ hx1 with ⟨q_18,hx1⟩|⟨q_18,hx1⟩
 ·obtain ⟨g10,hx1⟩:=grd_d hx1
  obtain ⟨r_19,c11,hx1⟩:=bd_ hx1
  replace c11:=gIntP_ok c11
  cases hx1
  exact go_
 obtain ⟨g12,hx1⟩:=grd_d hx1
 obtain ⟨r_20,c13,hx1⟩:=bd_ hx1
 replace c13:=gIntP_ok c13
 cases hx1
 exact go_
set_option maxHeartbeats 8000000
def gLogic_B1 (s_7:(List Val)):(Int × Int)→Option (Step (Int × Int) (Val)):=fun s=>match s with
 | (t_8,v_9)=>bif (decide (v_9<((s_7.length:Nat):Int))) then (getI s_7 v_9).bind fun x_11=>(gTruthV x_11).bind fun r_12=>(gAnd t_8 r_12).bind fun r_13=>some (.next (r_13,(IntKind.i64.wrap (v_9+(1:Int))))) else
 some (.exit (t_8,v_9))
def gLogic_K1:Sum (Int × Int) (Val)→Option ((Val))
 | .inl (t_8,v_9)=>(gOfV2 t_8).bind fun r_14=>some r_14
 | .inr q=>some q
def gLogic_B2 (s_15:(List Val)):(Int × Int)→Option (Step (Int × Int) (Val)):=fun s=>match s with
 | (t_16,v_17)=>bif (decide (v_17<((s_15.length:Nat):Int))) then (getI s_15 v_17).bind fun x_19=>(gTruthV x_19).bind fun r_20=>(gOr3v t_16 r_20).bind fun r_21=>some (.next (r_21,(IntKind.i64.wrap (v_17+(1:Int))))) else
 some (.exit (t_16,v_17))
def gLogic_K2:Sum (Int × Int) (Val)→Option ((Val))
 | .inl (t_16,v_17)=>(gOfV2 t_16).bind fun r_22=>some r_22
 | .inr q=>some q
def gLogic (a_op:Int) (a_l:(List Val)):Option (Val):=(getI a_l (0:Int)).bind fun x_1=>(gTruthV x_1).bind fun r_2=>bif (decide (a_op=(4:Int))) then (gNot r_2).bind fun r_4=>(gOfV2 r_4).bind fun r_5=>some r_5 else
 bif (decide (a_op=(5:Int))) then (subI a_l (1:Int) ((a_l.length:Nat):Int)).bind fun s_7=>(loopM (gLogic_B1 s_7) fuel (r_2,(0:Int))).bind (gLogic_K1) else
 (subI a_l (1:Int) ((a_l.length:Nat):Int)).bind fun s_15=>(loopM (gLogic_B2 s_15) fuel (r_2,(0:Int))).bind (gLogic_K2)
theorem gLogic_ok {a_op:Int} {a_l:(List Val)} {r:Val} (H:gLogic a_op a_l=some r):Pure Tryz.prog 81 [.one (.int .i64 a_op), .one (.lst (a_l.map cV))] (.val (.agg (cV r))):=by
 unfold gLogic at H
 refine po_ Tryz.func81 Tryz.ntmps81 ?_
 obtain ⟨x_1,i1z,i1,i1x,H⟩:=idx_ (f:=cV) H
 obtain ⟨r_2,c2,H⟩:=bd_ H
 replace c2:=gTruthV_ok c2
 rcases cnd_ H with ⟨q_3,H⟩|⟨q_3,H⟩
 ·obtain ⟨r_4,c3,H⟩:=bd_ H
  replace c3:=gNot_ok c3
  obtain ⟨r_5,c4,H⟩:=bd_ H
  replace c4:=gOfV2_ok c4
  cases H
  exact go_
 rcases cnd_ H with ⟨q_6,H⟩|⟨q_6,H⟩
 ·obtain ⟨s_7,u5,H⟩:=bd_ H
  obtain ⟨⟨u5a,u5b,u5c⟩,u5⟩:=subI_some u5
  have u5x:=subE (f:=cV) u5
  repeat' (first|refine p_ rfl rfl rfl rfl rfl ?_|refine st_nil ?_|refine x_ rfl rfl rfl rfl rfl rfl rfl rfl ?_|refine l_ rfl rfl rfl rfl ?_|refine s_ rfl rfl rfl ?_|refine t_ rfl rfl rfl rfl ?_|refine k_ rfl rfl rfl ?_|refine k0_ rfl rfl ?_|refine c_ rfl rfl rfl rfl ?_|refine pick_t rfl rfl rfl rfl rfl rfl rfl ?_|refine pick_f rfl rfl rfl rfl rfl rfl rfl ?_|refine aw_seq ?_|refine aw_region tab_ok _ rfl ?_|refine aw_drawn2 tabS_ok _ rfl mx_ (by decide +kernel) ?_|refine aw_condT rfl ?_|refine aw_condF rfl ?_|refine aw_block ?_|refine aw_exit ?_|refine aw_ret ?_|refine aw_skip ?_|rw [List.length_map]|rw [mn_norm]|rw [mx_norm]|rw [u5x]|rw [show ((0:Nat):Int)=0 from rfl])
  refine alM_ (fun s:Int × Int=>match s with|(t_8,v_9)=>[(4, .one (.ptr 0 0)),(5, .one (.c (.int .i64 t_8))),(35, .one (.c (.lst (s_7.map cV)))),(36, .one (.c (.int .i64 ((s_7.length:Nat):Int)))),(37, .one (.c (.int .i64 v_9)))]) (fun s=>match s with|(t_8,v_9)=>[.box [.c (.int .i64 (0:Int)), .c (.int .i64 (0:Int)), .c (.str ByteArray.empty)]]) H (fun _=>Nat.zero_le _)
   (fm_ br_ [] rfl bt_ bo_) ?_
  rintro ⟨t_8,v_9⟩ st1 hb1 hk1
  unfold gLogic_B1 at hb1
  dsimp only at hb1 ⊢
  repeat' (first|refine p_ rfl rfl rfl rfl rfl ?_|refine st_nil ?_|refine x_ rfl rfl rfl rfl rfl rfl rfl rfl ?_|refine l_ rfl rfl rfl rfl ?_|refine s_ rfl rfl rfl ?_|refine t_ rfl rfl rfl rfl ?_|refine k_ rfl rfl rfl ?_|refine k0_ rfl rfl ?_|refine c_ rfl rfl rfl rfl ?_|refine pick_t rfl rfl rfl rfl rfl rfl rfl ?_|refine pick_f rfl rfl rfl rfl rfl rfl rfl ?_|refine aw_seq ?_|refine aw_region tab_ok _ rfl ?_|refine aw_drawn2 tabS_ok _ rfl mx_ (by decide +kernel) ?_|refine aw_condT rfl ?_|refine aw_condF rfl ?_|refine aw_block ?_|refine aw_exit ?_|refine aw_ret ?_|refine aw_skip ?_|rw [List.length_map]|rw [mn_norm]|rw [mx_norm]|rw [u5x]|rw [show ((0:Nat):Int)=0 from rfl])
  rcases cnd_ hb1 with ⟨q_10,hb1⟩|⟨q_10,hb1⟩
  ·obtain ⟨x_11,i6z,i6,i6x,hb1⟩:=idx_ (f:=cV) hb1
   obtain ⟨r_12,c7,hb1⟩:=bd_ hb1
   replace c7:=gTruthV_ok c7
   obtain ⟨r_13,c8,hb1⟩:=bd_ hb1
   replace c8:=gAnd_ok c8
   cases hb1
   repeat' (first|refine p_ rfl rfl rfl rfl rfl ?_|refine st_nil ?_|refine x_ rfl rfl rfl rfl rfl rfl rfl rfl ?_|refine l_ rfl rfl rfl rfl ?_|refine s_ rfl rfl rfl ?_|refine t_ rfl rfl rfl rfl ?_|refine k_ rfl rfl rfl ?_|refine k0_ rfl rfl ?_|refine c_ rfl rfl rfl rfl ?_|refine pick_t rfl rfl rfl rfl rfl rfl rfl ?_|refine pick_f rfl rfl rfl rfl rfl rfl rfl ?_|refine aw_seq ?_|refine aw_region tab_ok _ rfl ?_|refine aw_drawn2 tabS_ok _ rfl mx_ (by decide +kernel) ?_|refine aw_condT rfl ?_|refine aw_condF rfl ?_|refine aw_block ?_|refine aw_exit ?_|refine aw_ret ?_|refine aw_skip ?_|rw [List.length_map]|rw [mn_norm]|rw [mx_norm]|rw [u5x]|rw [show ((0:Nat):Int)=0 from rfl])
   exact ⟨_,rfl,fm_ br_ [_] rfl bt_ bo_⟩
  cases hb1
  have hx1:gLogic_K1 (.inl (t_8,v_9))=some _:=hk1
  unfold gLogic_K1 at hx1
  dsimp only at hx1
  obtain ⟨r_14,c9,hx1⟩:=bd_ hx1
  replace c9:=gOfV2_ok c9
  cases hx1
  repeat' (first|refine p_ rfl rfl rfl rfl rfl ?_|refine st_nil ?_|refine x_ rfl rfl rfl rfl rfl rfl rfl rfl ?_|refine l_ rfl rfl rfl rfl ?_|refine s_ rfl rfl rfl ?_|refine t_ rfl rfl rfl rfl ?_|refine k_ rfl rfl rfl ?_|refine k0_ rfl rfl ?_|refine c_ rfl rfl rfl rfl ?_|refine pick_t rfl rfl rfl rfl rfl rfl rfl ?_|refine pick_f rfl rfl rfl rfl rfl rfl rfl ?_|refine aw_seq ?_|refine aw_region tab_ok _ rfl ?_|refine aw_drawn2 tabS_ok _ rfl mx_ (by decide +kernel) ?_|refine aw_condT rfl ?_|refine aw_condF rfl ?_|refine aw_block ?_|refine aw_exit ?_|refine aw_ret ?_|refine aw_skip ?_|rw [List.length_map]|rw [mn_norm]|rw [mx_norm]|rw [u5x]|rw [show ((0:Nat):Int)=0 from rfl])
  refine end_ret (res_of rfl ?_ ?_)
  ·repeat' (first|exact trivial|rfl|exact Nat.le_of_ble_eq_true rfl|omega|apply And.intro)
  ·first|rfl|(simp only [List.map_append,List.map_cons,List.map_nil,List.nil_append]<;>rfl)
 obtain ⟨s_15,u10,H⟩:=bd_ H
 obtain ⟨⟨u10a,u10b,u10c⟩,u10⟩:=subI_some u10
 have u10x:=subE (f:=cV) u10
 repeat' (first|refine p_ rfl rfl rfl rfl rfl ?_|refine st_nil ?_|refine x_ rfl rfl rfl rfl rfl rfl rfl rfl ?_|refine l_ rfl rfl rfl rfl ?_|refine s_ rfl rfl rfl ?_|refine t_ rfl rfl rfl rfl ?_|refine k_ rfl rfl rfl ?_|refine k0_ rfl rfl ?_|refine c_ rfl rfl rfl rfl ?_|refine pick_t rfl rfl rfl rfl rfl rfl rfl ?_|refine pick_f rfl rfl rfl rfl rfl rfl rfl ?_|refine aw_seq ?_|refine aw_region tab_ok _ rfl ?_|refine aw_drawn2 tabS_ok _ rfl mx_ (by decide +kernel) ?_|refine aw_condT rfl ?_|refine aw_condF rfl ?_|refine aw_block ?_|refine aw_exit ?_|refine aw_ret ?_|refine aw_skip ?_|rw [List.length_map]|rw [mn_norm]|rw [mx_norm]|rw [u10x]|rw [show ((0:Nat):Int)=0 from rfl])
 refine alM_ (fun s:Int × Int=>match s with|(t_16,v_17)=>[(4, .one (.ptr 0 0)),(5, .one (.c (.int .i64 t_16))),(16, .one (.c (.lst (s_15.map cV)))),(17, .one (.c (.int .i64 ((s_15.length:Nat):Int)))),(18, .one (.c (.int .i64 v_17)))]) (fun s=>match s with|(t_16,v_17)=>[.box [.c (.int .i64 (0:Int)), .c (.int .i64 (0:Int)), .c (.str ByteArray.empty)]]) H (fun _=>Nat.zero_le _)
  (fm_ br_ [] rfl bt_ bo_) ?_
 rintro ⟨t_16,v_17⟩ st2 hb2 hk2
 unfold gLogic_B2 at hb2
 dsimp only at hb2 ⊢
 repeat' (first|refine p_ rfl rfl rfl rfl rfl ?_|refine st_nil ?_|refine x_ rfl rfl rfl rfl rfl rfl rfl rfl ?_|refine l_ rfl rfl rfl rfl ?_|refine s_ rfl rfl rfl ?_|refine t_ rfl rfl rfl rfl ?_|refine k_ rfl rfl rfl ?_|refine k0_ rfl rfl ?_|refine c_ rfl rfl rfl rfl ?_|refine pick_t rfl rfl rfl rfl rfl rfl rfl ?_|refine pick_f rfl rfl rfl rfl rfl rfl rfl ?_|refine aw_seq ?_|refine aw_region tab_ok _ rfl ?_|refine aw_drawn2 tabS_ok _ rfl mx_ (by decide +kernel) ?_|refine aw_condT rfl ?_|refine aw_condF rfl ?_|refine aw_block ?_|refine aw_exit ?_|refine aw_ret ?_|refine aw_skip ?_|rw [List.length_map]|rw [mn_norm]|rw [mx_norm]|rw [u10x]|rw [show ((0:Nat):Int)=0 from rfl])
 rcases cnd_ hb2 with ⟨q_18,hb2⟩|⟨q_18,hb2⟩
 ·obtain ⟨x_19,i11z,i11,i11x,hb2⟩:=idx_ (f:=cV) hb2
  obtain ⟨r_20,c12,hb2⟩:=bd_ hb2
  replace c12:=gTruthV_ok c12
  obtain ⟨r_21,c13,hb2⟩:=bd_ hb2
  replace c13:=gOr3v_ok c13
  cases hb2
  repeat' (first|refine p_ rfl rfl rfl rfl rfl ?_|refine st_nil ?_|refine x_ rfl rfl rfl rfl rfl rfl rfl rfl ?_|refine l_ rfl rfl rfl rfl ?_|refine s_ rfl rfl rfl ?_|refine t_ rfl rfl rfl rfl ?_|refine k_ rfl rfl rfl ?_|refine k0_ rfl rfl ?_|refine c_ rfl rfl rfl rfl ?_|refine pick_t rfl rfl rfl rfl rfl rfl rfl ?_|refine pick_f rfl rfl rfl rfl rfl rfl rfl ?_|refine aw_seq ?_|refine aw_region tab_ok _ rfl ?_|refine aw_drawn2 tabS_ok _ rfl mx_ (by decide +kernel) ?_|refine aw_condT rfl ?_|refine aw_condF rfl ?_|refine aw_block ?_|refine aw_exit ?_|refine aw_ret ?_|refine aw_skip ?_|rw [List.length_map]|rw [mn_norm]|rw [mx_norm]|rw [u10x]|rw [show ((0:Nat):Int)=0 from rfl])
  exact ⟨_,rfl,fm_ br_ [_] rfl bt_ bo_⟩
 cases hb2
 have hx2:gLogic_K2 (.inl (t_16,v_17))=some _:=hk2
 unfold gLogic_K2 at hx2
 dsimp only at hx2
 obtain ⟨r_22,c14,hx2⟩:=bd_ hx2
 replace c14:=gOfV2_ok c14
 cases hx2
 repeat' (first|refine p_ rfl rfl rfl rfl rfl ?_|refine st_nil ?_|refine x_ rfl rfl rfl rfl rfl rfl rfl rfl ?_|refine l_ rfl rfl rfl rfl ?_|refine s_ rfl rfl rfl ?_|refine t_ rfl rfl rfl rfl ?_|refine k_ rfl rfl rfl ?_|refine k0_ rfl rfl ?_|refine c_ rfl rfl rfl rfl ?_|refine pick_t rfl rfl rfl rfl rfl rfl rfl ?_|refine pick_f rfl rfl rfl rfl rfl rfl rfl ?_|refine aw_seq ?_|refine aw_region tab_ok _ rfl ?_|refine aw_drawn2 tabS_ok _ rfl mx_ (by decide +kernel) ?_|refine aw_condT rfl ?_|refine aw_condF rfl ?_|refine aw_block ?_|refine aw_exit ?_|refine aw_ret ?_|refine aw_skip ?_|rw [List.length_map]|rw [mn_norm]|rw [mx_norm]|rw [u10x]|rw [show ((0:Nat):Int)=0 from rfl])
 refine end_ret (res_of rfl ?_ ?_)
 ·repeat' (first|exact trivial|rfl|exact Nat.le_of_ble_eq_true rfl|omega|apply And.intro)
 ·first|rfl|(simp only [List.map_append,List.map_cons,List.map_nil,List.nil_append]<;>rfl)
set_option maxHeartbeats 8000000
def gAt (a_row:(List Val)) (a_i:Int):Option (Val):=bif (decide (a_i<(0:Int))) then (gNull ).bind fun r_2=>some r_2 else
 bif (decide (((a_row.length:Nat):Int)≤a_i)) then (gNull ).bind fun r_4=>some r_4 else
 (getI a_row a_i).bind fun x_5=>some x_5
theorem gAt_ok {a_row:(List Val)} {a_i:Int} {r:Val} (H:gAt a_row a_i=some r):Pure Tryz.prog 165 [.one (.lst (a_row.map cV)), .one (.int .i64 a_i)] (.val (.agg (cV r))):=by
 unfold gAt at H
 refine po_ Tryz.func165 Tryz.ntmps165 ?_
 rcases cnd_ H with ⟨q_1,H⟩|⟨q_1,H⟩
 ·obtain ⟨r_2,c1,H⟩:=bd_ H
  replace c1:=gNull_ok c1
  cases H
  exact go_
 rcases cnd_ H with ⟨q_3,H⟩|⟨q_3,H⟩
 ·obtain ⟨r_4,c2,H⟩:=bd_ H
  replace c2:=gNull_ok c2
  cases H
  exact go_
 obtain ⟨x_5,i3z,i3,i3x,H⟩:=idx_ (f:=cV) H
 cases H
 exact go_
def gPick_B1 (a_row:(List Val)) (a_l:(List Int)):((List Val) × Int)→Option (Step ((List Val) × Int) ((List Val))):=fun s=>match s with
 | (out_1,v_2)=>bif (decide (v_2<((a_l.length:Nat):Int))) then (getI a_l v_2).bind fun x_4=>(gAt a_row x_4).bind fun r_5=>bif (decide (out_1.length+1≤4398046511104)) then (some (.next ((out_1++[r_5]),(IntKind.i64.wrap (v_2+(1:Int)))))) else none else
 some (.exit (out_1,v_2))
def gPick_K1:Sum ((List Val) × Int) ((List Val))→Option (((List Val)))
 | .inl (out_1,v_2)=>some out_1
 | .inr q=>some q
def gPick (a_row:(List Val)) (a_l:(List Int)):Option ((List Val)):=bif (decide (0≤((a_l.length:Nat):Int))) then (bif (decide ((32:Int)*((a_l.length:Nat):Int)≤281474976710656)) then (bif (decide (((a_l.length:Nat):Int)≤9223372036854775807)) then ((loopM (gPick_B1 a_row a_l) fuel ([],(0:Int))).bind (gPick_K1)) else none) else none) else none
theorem gPick_ok {a_row:(List Val)} {a_l:(List Int)} {r:(List Val)} (H:gPick a_row a_l=some r):Pure Tryz.prog 125 [.one (.lst (a_row.map cV)), .one (.lst (a_l.map (fun x=>[AC.int .i64 x])))] (.val (.one (.lst (r.map cV)))):=by
 unfold gPick at H
 refine po_ Tryz.func125 Tryz.ntmps125 ?_
 obtain ⟨g1,H⟩:=grd_d H
 obtain ⟨g2,H⟩:=grd_d H
 obtain ⟨g3,H⟩:=grd_d H
 repeat' (first|refine st_sop rfl rfl rfl rfl rfl (sop_makeOwn tab_ok (k:=3) (by_:=32) rfl rfl rfl rfl rfl rfl (by decide) (by omega) (by omega) (by omega)) ?_|refine p_ rfl rfl rfl rfl rfl ?_|refine st_nil ?_|refine x_ rfl rfl rfl rfl rfl rfl rfl rfl ?_|refine l_ rfl rfl rfl rfl ?_|refine s_ rfl rfl rfl ?_|refine t_ rfl rfl rfl rfl ?_|refine k_ rfl rfl rfl ?_|refine k0_ rfl rfl ?_|refine c_ rfl rfl rfl rfl ?_|refine pick_t rfl rfl rfl rfl rfl rfl rfl ?_|refine pick_f rfl rfl rfl rfl rfl rfl rfl ?_|refine aw_seq ?_|refine aw_region tab_ok _ rfl ?_|refine aw_drawn2 tabS_ok _ rfl mx_ (by decide +kernel) ?_|refine aw_condT rfl ?_|refine aw_condF rfl ?_|refine aw_block ?_|refine aw_exit ?_|refine aw_ret ?_|refine aw_skip ?_|rw [List.length_map]|rw [mn_norm]|rw [mx_norm])
 refine alM_ (fun s:(List Val) × Int=>match s with|(out_1,v_2)=>[(0, .one (.c (.lst (a_row.map cV)))),(5, .one (.own (out_1.map cV) 0)),(11, .one (.c (.lst (a_l.map (fun x=>[AC.int .i64 x]))))),(12, .one (.c (.int .i64 ((a_l.length:Nat):Int)))),(13, .one (.c (.int .i64 v_2)))]) (fun s=>match s with|(out_1,v_2)=>[.spare out_1.length 3]) H (fun _=>Nat.zero_le _)
  (fm_ br_ [] rfl bt_ bo_) ?_
 rintro ⟨out_1,v_2⟩ st1 hb1 hk1
 unfold gPick_B1 at hb1
 dsimp only at hb1 ⊢
 rcases cnd_ hb1 with ⟨q_3,hb1⟩|⟨q_3,hb1⟩
 ·obtain ⟨x_4,i4z,i4,i4x,hb1⟩:=idx_ (f:=(fun x=>[AC.int .i64 x])) hb1
  obtain ⟨r_5,c5,hb1⟩:=bd_ hb1
  replace c5:=gAt_ok c5
  obtain ⟨g6,hb1⟩:=grd_d hb1
  cases hb1
  repeat' (first|refine st_sop rfl rfl rfl rfl rfl (sop_makeOwn tab_ok (k:=3) (by_:=32) rfl rfl rfl rfl rfl rfl (by decide) (by omega) (by omega) (by omega)) ?_|refine p_ rfl rfl rfl rfl rfl ?_|refine st_nil ?_|refine x_ rfl rfl rfl rfl rfl rfl rfl rfl ?_|refine l_ rfl rfl rfl rfl ?_|refine s_ rfl rfl rfl ?_|refine t_ rfl rfl rfl rfl ?_|refine k_ rfl rfl rfl ?_|refine k0_ rfl rfl ?_|refine c_ rfl rfl rfl rfl ?_|refine pick_t rfl rfl rfl rfl rfl rfl rfl ?_|refine pick_f rfl rfl rfl rfl rfl rfl rfl ?_|refine aw_seq ?_|refine aw_region tab_ok _ rfl ?_|refine aw_drawn2 tabS_ok _ rfl mx_ (by decide +kernel) ?_|refine aw_condT rfl ?_|refine aw_condF rfl ?_|refine aw_block ?_|refine aw_exit ?_|refine aw_ret ?_|refine aw_skip ?_|rw [List.length_map]|rw [mn_norm]|rw [mx_norm])
  exact ⟨_,rfl,fm_ bs_ [] be_ bt_ bo_⟩
 cases hb1
 have hx1:gPick_K1 (.inl (out_1,v_2))=some _:=hk1
 unfold gPick_K1 at hx1
 dsimp only at hx1
 cases hx1
 repeat' (first|refine st_sop rfl rfl rfl rfl rfl (sop_makeOwn tab_ok (k:=3) (by_:=32) rfl rfl rfl rfl rfl rfl (by decide) (by omega) (by omega) (by omega)) ?_|refine p_ rfl rfl rfl rfl rfl ?_|refine st_nil ?_|refine x_ rfl rfl rfl rfl rfl rfl rfl rfl ?_|refine l_ rfl rfl rfl rfl ?_|refine s_ rfl rfl rfl ?_|refine t_ rfl rfl rfl rfl ?_|refine k_ rfl rfl rfl ?_|refine k0_ rfl rfl ?_|refine c_ rfl rfl rfl rfl ?_|refine pick_t rfl rfl rfl rfl rfl rfl rfl ?_|refine pick_f rfl rfl rfl rfl rfl rfl rfl ?_|refine aw_seq ?_|refine aw_region tab_ok _ rfl ?_|refine aw_drawn2 tabS_ok _ rfl mx_ (by decide +kernel) ?_|refine aw_condT rfl ?_|refine aw_condF rfl ?_|refine aw_block ?_|refine aw_exit ?_|refine aw_ret ?_|refine aw_skip ?_|rw [List.length_map]|rw [mn_norm]|rw [mx_norm])
 refine end_ret (res_of rfl ?_ ?_)
 ·repeat' (first|exact trivial|rfl|exact Nat.le_of_ble_eq_true rfl|omega|apply And.intro)
 ·first|rfl|(simp only [List.map_append,List.map_cons,List.map_nil,List.nil_append]<;>rfl)
def gColumn (a_row:(List Val)) (a_i:Int):Option (Val):=(gPick a_row [a_i]).bind fun r_1=>(getI r_1 (0:Int)).bind fun x_2=>(gValidP x_2).bind fun r_3=>bif (!r_3) then (gNull ).bind fun r_5=>some r_5 else
 some x_2
theorem gColumn_ok {a_row:(List Val)} {a_i:Int} {r:Val} (H:gColumn a_row a_i=some r):Pure Tryz.prog 80 [.one (.lst (a_row.map cV)), .one (.int .i64 a_i)] (.val (.agg (cV r))):=by
 unfold gColumn at H
 refine po_ Tryz.func80 Tryz.ntmps80 ?_
 obtain ⟨r_1,c1,H⟩:=bd_ H
 replace c1:=gPick_ok c1
 try simp only [List.map_append,List.map_cons,List.map_nil,List.nil_append,tE_eq] at c1
 obtain ⟨x_2,i2z,i2,i2x,H⟩:=idx_ (f:=cV) H
 obtain ⟨r_3,c3,H⟩:=bd_ H
 replace c3:=gValidP_ok c3
 rcases cnd_ H with ⟨q_4,H⟩|⟨q_4,H⟩
 ·obtain ⟨r_5,c4,H⟩:=bd_ H
  replace c4:=gNull_ok c4
  cases H
  exact go_
 cases H
 exact go_
set_option maxHeartbeats 8000000
def gRel (a_p:Per) (a_q:Per):Option (Int × Bool):=(gPV a_p).bind fun r_1=>bif (!r_1) then some ((0:Int),false) else
 (gPV a_q).bind fun r_3=>bif (!r_3) then some ((0:Int),false) else
 bif (decide (a_p.hi<a_q.lo)) then some ((0:Int),true) else
 bif (decide (a_p.hi=a_q.lo)) then some ((1:Int),true) else
 bif (decide (a_q.hi<a_p.lo)) then some ((12:Int),true) else
 bif (decide (a_q.hi=a_p.lo)) then some ((11:Int),true) else
 bif (sameS [.c (.int .i64 a_p.lo), .c (.int .i64 a_p.hi)] [.c (.int .i64 a_q.lo), .c (.int .i64 a_q.hi)]) then some ((6:Int),true) else
 bif (decide (a_p.lo=a_q.lo)) then bif (decide (a_p.hi<a_q.hi)) then some ((3:Int),true) else
 some ((9:Int),true) else
 bif (decide (a_p.hi=a_q.hi)) then bif (decide (a_q.lo<a_p.lo)) then some ((5:Int),true) else
 some ((7:Int),true) else
 bif (decide (a_p.lo<a_q.lo)) then bif (decide (a_q.hi<a_p.hi)) then some ((8:Int),true) else
 bif (decide (a_q.lo<a_p.lo)) then bif (decide (a_p.hi<a_q.hi)) then some ((4:Int),true) else
 some ((2:Int),true) else
 some ((2:Int),true) else
 bif (decide (a_q.lo<a_p.lo)) then bif (decide (a_p.hi<a_q.hi)) then some ((4:Int),true) else
 some ((10:Int),true) else
 some ((10:Int),true)
theorem gRel_ok {a_p:Per} {a_q:Per} {r:Int × Bool} (H:gRel a_p a_q=some r):Pure Tryz.prog 92 [.agg (cPer a_p), .agg (cPer a_q)] (.tup [.one (.int .i64 r.1), .one (.bool r.2)]):=by
 unfold gRel at H
 refine po_ Tryz.func92 Tryz.ntmps92 ?_
 obtain ⟨r_1,c1,H⟩:=bd_ H
 replace c1:=gPV_ok c1
 rcases cnd_ H with ⟨q_2,H⟩|⟨q_2,H⟩
 ·cases H
  exact go_
 obtain ⟨r_3,c2,H⟩:=bd_ H
 replace c2:=gPV_ok c2
 rcases cnd_ H with ⟨q_4,H⟩|⟨q_4,H⟩
 ·cases H
  exact go_
 refine gt_ ?_
 rcases cnd_ H with ⟨q_5,H⟩|⟨q_5,H⟩
 ·cases H
  exact go_
 rcases cnd_ H with ⟨q_6,H⟩|⟨q_6,H⟩
 ·cases H
  exact go_
 rcases cnd_ H with ⟨q_7,H⟩|⟨q_7,H⟩
 ·cases H
  exact go_
 refine gt_ ?_
 rcases cnd_ H with ⟨q_8,H⟩|⟨q_8,H⟩
 ·cases H
  exact go_
 rcases cnd_ H with ⟨q_9,H⟩|⟨q_9,H⟩
 ·cases H
  exact go_
 rcases cnd_ H with ⟨q_10,H⟩|⟨q_10,H⟩
 ·refine gt_ ?_
  rcases cnd_ H with ⟨q_11,H⟩|⟨q_11,H⟩
  ·cases H
   exact go_
  cases H
  exact go_
 refine gt_ ?_
 rcases cnd_ H with ⟨q_12,H⟩|⟨q_12,H⟩
 ·rcases cnd_ H with ⟨q_13,H⟩|⟨q_13,H⟩
  ·cases H
   exact go_
  cases H
  exact go_
 rcases cnd_ H with ⟨q_14,H⟩|⟨q_14,H⟩
 ·rcases cnd_ H with ⟨q_15,H⟩|⟨q_15,H⟩
  ·cases H
   exact go_
  refine gt_ ?_
  rcases cnd_ H with ⟨q_16,H⟩|⟨q_16,H⟩
  ·rcases cnd_ H with ⟨q_17,H⟩|⟨q_17,H⟩
   ·cases H
    exact go_
   cases H
   exact go_
  cases H
  exact go_
 rcases cnd_ H with ⟨q_18,H⟩|⟨q_18,H⟩
 ·refine gt_ ?_
  rcases cnd_ H with ⟨q_19,H⟩|⟨q_19,H⟩
  ·cases H
   exact go_
  cases H
  exact go_
 cases H
 exact go_
end Go.Proofs.YtfccopdbgfdcdaaGreatDoor
