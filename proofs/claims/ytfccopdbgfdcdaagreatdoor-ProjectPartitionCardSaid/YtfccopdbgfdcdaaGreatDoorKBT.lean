/- Parts of the proof, joined. No condition. -/
import Derived.Test.YtfccopdbgfdcdaaGreatDoorKBO
import Derived.Test.YtfccopdbgfdcdaaGreatDoorKBS
import Derived.Test.YtfccopdbgfdcdaaGreatDoorKBI
set_option linter.unusedSimpArgs false
set_option linter.unusedVariables false
namespace Go.Proofs.YtfccopdbgfdcdaaGreatDoor
open Go.RowKit Go.MapKept
set_option maxRecDepth 100000
set_option maxHeartbeats 8000000
def gAll11_B1 (a_l:(List Int)) (a_kind:Int):(Int)→Option (Step (Int) (Bool)):=fun s=>match s with
 | i_1=>bif (decide (i_1<((a_l.length:Nat):Int))) then (getI a_l i_1).bind fun x_3=>bif (decide (x_3≠a_kind)) then bif (decide (x_3≠(0:Int))) then some (.ret false) else
 some (.next (IntKind.i64.wrap (i_1+(1:Int)))) else
 some (.next (IntKind.i64.wrap (i_1+(1:Int)))) else
 some (.exit i_1)
def gAll11_K1:Sum (Int) (Bool)→Option ((Bool))
 | .inl i_1=>some true
 | .inr q=>some q
def gAll11 (a_l:(List Int)) (a_kind:Int):Option (Bool):=(loopM (gAll11_B1 a_l a_kind) fuel (0:Int)).bind (gAll11_K1)
theorem gAll11_ok {a_l:(List Int)} {a_kind:Int} {r:Bool} (H:gAll11 a_l a_kind=some r):Pure Tryz.prog 183 [.one (.lst (a_l.map (fun x=>[AC.int .i64 x]))), .one (.int .i64 a_kind)] (.val (.one (.bool r))):=by
 unfold gAll11 at H
 refine po_ Tryz.func183 Tryz.ntmps183 ?_
 refine gt_ ?_
 refine alM_ (fun s:Int=>match s with|i_1=>[(0, .one (.c (.lst (a_l.map (fun x=>[AC.int .i64 x]))))),(1, .one (.c (.int .i64 a_kind))),(5, .one (.c (.int .i64 i_1)))]) (fun s=>match s with|i_1=>[]) H (fun _=>Nat.zero_le _)
  (fm_ br_ [] rfl bt_ trivial) ?_
 rintro i_1 st1 hb1 hk1
 unfold gAll11_B1 at hb1
 dsimp only at hb1 ⊢
 rcases cnd_ hb1 with ⟨q_2,hb1⟩|⟨q_2,hb1⟩
 ·obtain ⟨x_3,i1z,i1,i1x,hb1⟩:=idx_ (f:=(fun x=>[AC.int .i64 x])) hb1
  rcases cnd_ hb1 with ⟨q_4,hb1⟩|⟨q_4,hb1⟩
  ·rcases cnd_ hb1 with ⟨q_5,hb1⟩|⟨q_5,hb1⟩
   ·cases hb1
    have hx1:gAll11_K1 (.inr false)=some _:=hk1
    unfold gAll11_K1 at hx1
    dsimp only at hx1
    cases hx1
    exact go_
   cases hb1
   refine gt_ ?_
   exact ⟨_,rfl,fm_ br_ [] rfl bt_ trivial⟩
  cases hb1
  refine gt_ ?_
  exact ⟨_,rfl,fm_ br_ [] rfl bt_ trivial⟩
 cases hb1
 have hx1:gAll11_K1 (.inl i_1)=some _:=hk1
 unfold gAll11_K1 at hx1
 dsimp only at hx1
 cases hx1
 exact go_
def gJoin11_B1 (a_l:(List Int)):(Int × Int)→Option (Step (Int × Int) (Int × Bool)):=fun s=>match s with
 | (k_1,i_2)=>bif (decide (i_2<((a_l.length:Nat):Int))) then (getI a_l i_2).bind fun x_4=>bif (decide (x_4=(0:Int))) then some (.next (k_1,(IntKind.i64.wrap (i_2+(1:Int))))) else
 bif (decide (k_1≠(0:Int))) then bif (decide (k_1≠x_4)) then some (.ret ((0:Int),false)) else
 some (.next (x_4,(IntKind.i64.wrap (i_2+(1:Int))))) else
 some (.next (x_4,(IntKind.i64.wrap (i_2+(1:Int))))) else
 some (.exit (k_1,i_2))
def gJoin11_K1:Sum (Int × Int) (Int × Bool)→Option ((Int × Bool))
 | .inl (k_1,i_2)=>some (k_1,true)
 | .inr q=>some q
def gJoin11 (a_l:(List Int)):Option (Int × Bool):=(loopM (gJoin11_B1 a_l) fuel ((0:Int),(0:Int))).bind (gJoin11_K1)
theorem gJoin11_ok {a_l:(List Int)} {r:Int × Bool} (H:gJoin11 a_l=some r):Pure Tryz.prog 184 [.one (.lst (a_l.map (fun x=>[AC.int .i64 x])))] (.tup [.one (.int .i64 r.1), .one (.bool r.2)]):=by
 unfold gJoin11 at H
 refine po_ Tryz.func184 Tryz.ntmps184 ?_
 refine gt_ ?_
 refine alM_ (fun s:Int × Int=>match s with|(k_1,i_2)=>[(0, .one (.c (.lst (a_l.map (fun x=>[AC.int .i64 x]))))),(4, .one (.c (.int .i64 k_1))),(5, .one (.c (.int .i64 i_2)))]) (fun s=>match s with|(k_1,i_2)=>[]) H (fun _=>Nat.zero_le _)
  (fm_ br_ [] rfl bt_ trivial) ?_
 rintro ⟨k_1,i_2⟩ st1 hb1 hk1
 unfold gJoin11_B1 at hb1
 dsimp only at hb1 ⊢
 rcases cnd_ hb1 with ⟨q_3,hb1⟩|⟨q_3,hb1⟩
 ·obtain ⟨x_4,i1z,i1,i1x,hb1⟩:=idx_ (f:=(fun x=>[AC.int .i64 x])) hb1
  rcases cnd_ hb1 with ⟨q_5,hb1⟩|⟨q_5,hb1⟩
  ·cases hb1
   refine gt_ ?_
   exact ⟨_,rfl,fm_ br_ [] rfl bt_ trivial⟩
  rcases cnd_ hb1 with ⟨q_6,hb1⟩|⟨q_6,hb1⟩
  ·rcases cnd_ hb1 with ⟨q_7,hb1⟩|⟨q_7,hb1⟩
   ·cases hb1
    have hx1:gJoin11_K1 (.inr ((0:Int),false))=some _:=hk1
    unfold gJoin11_K1 at hx1
    dsimp only at hx1
    cases hx1
    exact go_
   cases hb1
   refine gt_ ?_
   exact ⟨_,rfl,fm_ br_ [] rfl bt_ trivial⟩
  cases hb1
  refine gt_ ?_
  exact ⟨_,rfl,fm_ br_ [] rfl bt_ trivial⟩
 cases hb1
 have hx1:gJoin11_K1 (.inl (k_1,i_2))=some _:=hk1
 unfold gJoin11_K1 at hx1
 dsimp only at hx1
 cases hx1
 exact go_
def gRs11 (a_e:Ex) (a_l:(List Int)) (a_kinds:(List Int)):Option (Int × Bool):=bif (decide (a_e.op=(1:Int))) then some (a_e.v.kind,true) else
 bif (decide (a_e.op=(2:Int))) then (getI a_kinds a_e.int).bind fun x_3=>some (x_3,true) else
 bif (decide (a_e.op=(4:Int))) then (gAll11 a_l (3:Int)).bind fun r_5=>some ((3:Int),r_5) else
 bif (decide (a_e.op=(5:Int))) then (gAll11 a_l (3:Int)).bind fun r_7=>some ((3:Int),r_7) else
 bif (decide (a_e.op=(6:Int))) then (gAll11 a_l (3:Int)).bind fun r_9=>some ((3:Int),r_9) else
 bif (decide (a_e.op=(7:Int))) then (gJoin11 a_l).bind fun r_11=>some ((3:Int),r_11.2) else
 bif (decide (a_e.op=(8:Int))) then (gJoin11 a_l).bind fun r_13=>some ((3:Int),r_13.2) else
 bif (decide (a_e.op=(9:Int))) then (gJoin11 a_l).bind fun r_15=>some ((3:Int),r_15.2) else
 bif (decide (a_e.op=(10:Int))) then (gJoin11 a_l).bind fun r_17=>some ((3:Int),r_17.2) else
 bif (decide (a_e.op=(11:Int))) then (gJoin11 a_l).bind fun r_19=>some ((3:Int),r_19.2) else
 bif (decide (a_e.op=(12:Int))) then (gJoin11 a_l).bind fun r_21=>some ((3:Int),r_21.2) else
 bif (decide (a_e.op=(13:Int))) then (gAll11 a_l (1:Int)).bind fun r_23=>some ((1:Int),r_23) else
 bif (decide (a_e.op=(14:Int))) then (gAll11 a_l (1:Int)).bind fun r_25=>some ((1:Int),r_25) else
 bif (decide (a_e.op=(15:Int))) then (gAll11 a_l (1:Int)).bind fun r_27=>some ((1:Int),r_27) else
 bif (decide (a_e.op=(16:Int))) then (gAll11 a_l (1:Int)).bind fun r_29=>some ((1:Int),r_29) else
 bif (decide (a_e.op=(17:Int))) then (gAll11 a_l (1:Int)).bind fun r_31=>some ((1:Int),r_31) else
 bif (decide (a_e.op=(18:Int))) then (gAll11 a_l (1:Int)).bind fun r_33=>some ((1:Int),r_33) else
 bif (decide (a_e.op=(19:Int))) then (gAll11 a_l (2:Int)).bind fun r_35=>some ((2:Int),r_35) else
 bif (decide (a_e.op=(20:Int))) then (gAll11 a_l (2:Int)).bind fun r_37=>some ((1:Int),r_37) else
 bif (decide (a_e.op=(21:Int))) then some ((3:Int),true) else
 bif (decide (a_e.op=(22:Int))) then (subI a_l (1:Int) ((a_l.length:Nat):Int)).bind fun s_40=>(gJoin11 s_40).bind fun r_41=>bif r_41.2 then (subI a_l (0:Int) (1:Int)).bind fun s_43=>(gAll11 s_43 (3:Int)).bind fun r_44=>some (r_41.1,r_44) else
 some (r_41.1,false) else
 bif (decide (a_e.op=(23:Int))) then (gJoin11 a_l).bind fun r_46=>some (r_46.1,r_46.2) else
 (gAll11 a_l (1:Int)).bind fun r_47=>some ((3:Int),r_47)
theorem gResult11_ok {a_e:Ex} {a_l:(List Int)} {a_kinds:(List Int)} {r:Int × Bool} (H:gRs11 a_e a_l a_kinds=some r):Pure Tryz.prog 151 [.agg (tE a_e), .one (.lst (a_l.map (fun x=>[AC.int .i64 x]))), .one (.lst (a_kinds.map (fun x=>[AC.int .i64 x])))] (.tup [.one (.int .i64 r.1), .one (.bool r.2)]):=by
 unfold gRs11 at H
 rw [tE_eq a_e]
 refine po_ Tryz.func151 Tryz.ntmps151 ?_
 rcases cnd_ H with ⟨q_1,H⟩|⟨q_1,H⟩
 ·cases H
  exact go_
 rcases cnd_ H with ⟨q_2,H⟩|⟨q_2,H⟩
 ·obtain ⟨x_3,i1z,i1,i1x,H⟩:=idx_ (f:=(fun x=>[AC.int .i64 x])) H
  cases H
  exact go_
 refine gt_ ?_
 rcases cnd_ H with ⟨q_4,H⟩|⟨q_4,H⟩
 ·obtain ⟨r_5,c2,H⟩:=bd_ H
  replace c2:=gAll11_ok c2
  cases H
  exact go_
 rcases cnd_ H with ⟨q_6,H⟩|⟨q_6,H⟩
 ·obtain ⟨r_7,c3,H⟩:=bd_ H
  replace c3:=gAll11_ok c3
  cases H
  exact go_
 rcases cnd_ H with ⟨q_8,H⟩|⟨q_8,H⟩
 ·obtain ⟨r_9,c4,H⟩:=bd_ H
  replace c4:=gAll11_ok c4
  cases H
  exact go_
 refine gt_ ?_
 rcases cnd_ H with ⟨q_10,H⟩|⟨q_10,H⟩
 ·obtain ⟨r_11,c5,H⟩:=bd_ H
  replace c5:=gJoin11_ok c5
  cases H
  exact go_
 rcases cnd_ H with ⟨q_12,H⟩|⟨q_12,H⟩
 ·obtain ⟨r_13,c6,H⟩:=bd_ H
  replace c6:=gJoin11_ok c6
  cases H
  exact go_
 rcases cnd_ H with ⟨q_14,H⟩|⟨q_14,H⟩
 ·obtain ⟨r_15,c7,H⟩:=bd_ H
  replace c7:=gJoin11_ok c7
  cases H
  exact go_
 refine gt_ ?_
 rcases cnd_ H with ⟨q_16,H⟩|⟨q_16,H⟩
 ·obtain ⟨r_17,c8,H⟩:=bd_ H
  replace c8:=gJoin11_ok c8
  cases H
  exact go_
 rcases cnd_ H with ⟨q_18,H⟩|⟨q_18,H⟩
 ·obtain ⟨r_19,c9,H⟩:=bd_ H
  replace c9:=gJoin11_ok c9
  cases H
  exact go_
 rcases cnd_ H with ⟨q_20,H⟩|⟨q_20,H⟩
 ·obtain ⟨r_21,c10,H⟩:=bd_ H
  replace c10:=gJoin11_ok c10
  cases H
  exact go_
 refine gt_ ?_
 rcases cnd_ H with ⟨q_22,H⟩|⟨q_22,H⟩
 ·obtain ⟨r_23,c11,H⟩:=bd_ H
  replace c11:=gAll11_ok c11
  cases H
  exact go_
 rcases cnd_ H with ⟨q_24,H⟩|⟨q_24,H⟩
 ·obtain ⟨r_25,c12,H⟩:=bd_ H
  replace c12:=gAll11_ok c12
  cases H
  exact go_
 rcases cnd_ H with ⟨q_26,H⟩|⟨q_26,H⟩
 ·obtain ⟨r_27,c13,H⟩:=bd_ H
  replace c13:=gAll11_ok c13
  cases H
  exact go_
 refine gt_ ?_
 rcases cnd_ H with ⟨q_28,H⟩|⟨q_28,H⟩
 ·obtain ⟨r_29,c14,H⟩:=bd_ H
  replace c14:=gAll11_ok c14
  cases H
  exact go_
 rcases cnd_ H with ⟨q_30,H⟩|⟨q_30,H⟩
 ·obtain ⟨r_31,c15,H⟩:=bd_ H
  replace c15:=gAll11_ok c15
  cases H
  exact go_
 rcases cnd_ H with ⟨q_32,H⟩|⟨q_32,H⟩
 ·obtain ⟨r_33,c16,H⟩:=bd_ H
  replace c16:=gAll11_ok c16
  cases H
  exact go_
 refine gt_ ?_
 rcases cnd_ H with ⟨q_34,H⟩|⟨q_34,H⟩
 ·obtain ⟨r_35,c17,H⟩:=bd_ H
  replace c17:=gAll11_ok c17
  cases H
  exact go_
 rcases cnd_ H with ⟨q_36,H⟩|⟨q_36,H⟩
 ·obtain ⟨r_37,c18,H⟩:=bd_ H
  replace c18:=gAll11_ok c18
  cases H
  exact go_
 rcases cnd_ H with ⟨q_38,H⟩|⟨q_38,H⟩
 ·cases H
  exact go_
 refine gt_ ?_
 rcases cnd_ H with ⟨q_39,H⟩|⟨q_39,H⟩
 ·obtain ⟨s_40,u19,H⟩:=bd_ H
  obtain ⟨⟨u19a,u19b,u19c⟩,u19⟩:=subI_some u19
  have u19x:=subE (f:=(fun x=>[AC.int .i64 x])) u19
  obtain ⟨r_41,c20,H⟩:=bd_ H
  replace c20:=gJoin11_ok c20
  rcases cnd_ H with ⟨q_42,H⟩|⟨q_42,H⟩
  ·obtain ⟨s_43,u21,H⟩:=bd_ H
   obtain ⟨⟨u21a,u21b,u21c⟩,u21⟩:=subI_some u21
   have u21x:=subE (f:=(fun x=>[AC.int .i64 x])) u21
   obtain ⟨r_44,c22,H⟩:=bd_ H
   replace c22:=gAll11_ok c22
   cases H
   repeat' (first|refine p_ rfl rfl rfl rfl rfl ?_|refine st_nil ?_|refine x_ rfl rfl rfl rfl rfl rfl rfl rfl ?_|refine l_ rfl rfl rfl rfl ?_|refine s_ rfl rfl rfl ?_|refine t_ rfl rfl rfl rfl ?_|refine k_ rfl rfl rfl ?_|refine k0_ rfl rfl ?_|refine c_ rfl rfl rfl rfl ?_|refine pick_t rfl rfl rfl rfl rfl rfl rfl ?_|refine pick_f rfl rfl rfl rfl rfl rfl rfl ?_|refine aw_seq ?_|refine aw_region tab_ok _ rfl ?_|refine aw_drawn2 tabS_ok _ rfl mx_ (by decide +kernel) ?_|refine aw_condT rfl ?_|refine aw_condF rfl ?_|refine aw_block ?_|refine aw_exit ?_|refine aw_ret ?_|refine aw_skip ?_|rw [List.length_map]|rw [mn_norm]|rw [mx_norm]|rw [u19x]|rw [u21x]|rw [show ((0:Nat):Int)=0 from rfl])
   refine end_ret (res_of rfl ?_ ?_)
   ·repeat' (first|exact trivial|rfl|exact Nat.le_of_ble_eq_true rfl|omega|apply And.intro)
   ·first|rfl|(simp only [List.map_append,List.map_cons,List.map_nil,List.nil_append]<;>rfl)
  cases H
  repeat' (first|refine p_ rfl rfl rfl rfl rfl ?_|refine st_nil ?_|refine x_ rfl rfl rfl rfl rfl rfl rfl rfl ?_|refine l_ rfl rfl rfl rfl ?_|refine s_ rfl rfl rfl ?_|refine t_ rfl rfl rfl rfl ?_|refine k_ rfl rfl rfl ?_|refine k0_ rfl rfl ?_|refine c_ rfl rfl rfl rfl ?_|refine pick_t rfl rfl rfl rfl rfl rfl rfl ?_|refine pick_f rfl rfl rfl rfl rfl rfl rfl ?_|refine aw_seq ?_|refine aw_region tab_ok _ rfl ?_|refine aw_drawn2 tabS_ok _ rfl mx_ (by decide +kernel) ?_|refine aw_condT rfl ?_|refine aw_condF rfl ?_|refine aw_block ?_|refine aw_exit ?_|refine aw_ret ?_|refine aw_skip ?_|rw [List.length_map]|rw [mn_norm]|rw [mx_norm]|rw [u19x]|rw [show ((0:Nat):Int)=0 from rfl])
  refine end_ret (res_of rfl ?_ ?_)
  ·repeat' (first|exact trivial|rfl|exact Nat.le_of_ble_eq_true rfl|omega|apply And.intro)
  ·first|rfl|(simp only [List.map_append,List.map_cons,List.map_nil,List.nil_append]<;>rfl)
 rcases cnd_ H with ⟨q_45,H⟩|⟨q_45,H⟩
 ·obtain ⟨r_46,c23,H⟩:=bd_ H
  replace c23:=gJoin11_ok c23
  cases H
  exact go_
 obtain ⟨r_47,c24,H⟩:=bd_ H
 replace c24:=gAll11_ok c24
 cases H
 exact go_
def gDepth11B_B1 (a_e:Ex) (rec:Ex→Option Int):(Int × Int)→Option (Step (Int × Int) (Int)):=fun s=>match s with
 | (n_1,i_2)=>bif (decide (i_2<((a_e.args.length:Nat):Int))) then (getI a_e.args i_2).bind fun x_4=>(rec x_4).bind fun r_5=>some (.next ((mxI n_1 r_5),(IntKind.i64.wrap (i_2+(1:Int))))) else
 some (.exit (n_1,i_2))
def gDepth11B_K1:Sum (Int × Int) (Int)→Option ((Int))
 | .inl (n_1,i_2)=>some (IntKind.i64.wrap (n_1+(1:Int)))
 | .inr q=>some q
def gDepth11B (rec:Ex→Option Int) (a_e:Ex):Option (Int):=(loopM (gDepth11B_B1 a_e rec) fuel ((0:Int),(0:Int))).bind (gDepth11B_K1)
theorem gDepth11B_ok {rec:Ex→Option Int}  (hrec : ∀ {x:Ex} {r:Int}, rec x=some r→Pure Tryz.prog 103 [.agg (tE x)] (.val (.one (.int .i64 r)))) {a_e:Ex} {r:Int} (H:gDepth11B rec a_e=some r):Pure Tryz.prog 103 [.agg (tE a_e)] (.val (.one (.int .i64 r))):=by
 unfold gDepth11B at H
 rw [tE_eq a_e]
 refine po_ Tryz.func103 Tryz.ntmps103 ?_
 refine gt_ ?_
 refine alM_ (fun s:Int × Int=>match s with|(n_1,i_2)=>[(1, .one (.ptr 0 0)),(3, .one (.c (.int .i64 n_1))),(4, .one (.c (.int .i64 i_2)))]) (fun s=>match s with|(n_1,i_2)=>[.box [.c (.int .i64 a_e.op), .c (.int .i64 a_e.int), .c (.int .i64 a_e.v.kind), .c (.int .i64 a_e.v.int), .c (.str a_e.v.text), .c (.str a_e.nm), .c (.lst (a_e.args.map tE))]]) H (fun _=>Nat.zero_le _)
  (fm_ br_ [] rfl bt_ bo_) ?_
 rintro ⟨n_1,i_2⟩ st1 hb1 hk1
 unfold gDepth11B_B1 at hb1
 dsimp only at hb1 ⊢
 rcases cnd_ hb1 with ⟨q_3,hb1⟩|⟨q_3,hb1⟩
 ·obtain ⟨x_4,i1z,i1,i1x,hb1⟩:=idx_ (f:=tE) hb1
  simp only [List.map_append,List.map_cons,List.map_nil,List.nil_append,tE_eq] at i1x
  obtain ⟨r_5,c2,hb1⟩:=bd_ hb1
  replace c2:=hrec c2
  try simp only [List.map_append,List.map_cons,List.map_nil,List.nil_append,tE_eq] at c2
  cases hb1
  refine gt_ ?_
  exact ⟨_,rfl,fm_ br_ [] rfl bt_ bo_⟩
 cases hb1
 have hx1:gDepth11B_K1 (.inl (n_1,i_2))=some _:=hk1
 unfold gDepth11B_K1 at hx1
 dsimp only at hx1
 cases hx1
 exact go_
def gDepth11:Nat→Ex→Option Int
 | 0,_=>none
 | n+1,x=>gDepth11B (gDepth11 n) x
theorem gDepth11_ok : ∀ (n:Nat) {x:Ex} {r:Int}, gDepth11 n x=some r→Pure Tryz.prog 103 [.agg (tE x)] (.val (.one (.int .i64 r)))
 | 0,_,_,h=>nomatch h
 | n+1,_,_,h=>gDepth11B_ok (gDepth11_ok n) h
def gCheck11B_B1 (a_e:Ex) (a_kinds:(List Int)) (rec:Ex→List Int→Option (Int × Int)):((List Int) × Int)→Option (Step ((List Int) × Int) (Int × Int)):=fun s=>match s with
 | (l_8,i_9)=>bif (decide (i_9<((a_e.args.length:Nat):Int))) then (getI a_e.args i_9).bind fun x_11=>(rec x_11 a_kinds).bind fun r_12=>bif (decide (r_12.2≠(0:Int))) then some (.ret ((0:Int),r_12.2)) else
 bif (decide (l_8.length+1≤17592186044416)) then (some (.next ((l_8++[r_12.1]),(IntKind.i64.wrap (i_9+(1:Int)))))) else none else
 some (.exit (l_8,i_9))
def gCheck11B_K1 (a_e:Ex) (a_kinds:(List Int)):Sum ((List Int) × Int) (Int × Int)→Option ((Int × Int))
 | .inl (l_8,i_9)=>(gRs11 a_e l_8 a_kinds).bind fun r_14=>bif (!r_14.2) then some ((0:Int),(7:Int)) else
 some (r_14.1,(0:Int))
 | .inr q=>some q
def gCheck11B_B2 (a_e:Ex) (a_kinds:(List Int)) (rec:Ex→List Int→Option (Int × Int)):((List Int) × Int)→Option (Step ((List Int) × Int) (Int × Int)):=fun s=>match s with
 | (l_16,i_17)=>bif (decide (i_17<((a_e.args.length:Nat):Int))) then (getI a_e.args i_17).bind fun x_19=>(rec x_19 a_kinds).bind fun r_20=>bif (decide (r_20.2≠(0:Int))) then some (.ret ((0:Int),r_20.2)) else
 bif (decide (l_16.length+1≤17592186044416)) then (some (.next ((l_16++[r_20.1]),(IntKind.i64.wrap (i_17+(1:Int)))))) else none else
 some (.exit (l_16,i_17))
def gCheck11B_K2 (a_e:Ex) (a_kinds:(List Int)):Sum ((List Int) × Int) (Int × Int)→Option ((Int × Int))
 | .inl (l_16,i_17)=>(gRs11 a_e l_16 a_kinds).bind fun r_22=>bif (!r_22.2) then some ((0:Int),(7:Int)) else
 some (r_22.1,(0:Int))
 | .inr q=>some q
def gCheck11B (rec:Ex→List Int→Option (Int × Int)) (a_e:Ex) (a_kinds:(List Int)):Option (Int × Int):=(gArity a_e.op).bind fun r_1=>bif (decide (r_1.1<(0:Int))) then some ((0:Int),(7:Int)) else
 (gFormedR a_e).bind fun r_3=>bif (!r_3) then some ((0:Int),(8:Int)) else
 bif (decide (a_e.op=(2:Int))) then bif (decide (a_e.int<(0:Int))) then some ((0:Int),(13:Int)) else
 bif (decide (((a_kinds.length:Nat):Int)≤a_e.int)) then some ((0:Int),(13:Int)) else
 (loopM (gCheck11B_B1 a_e a_kinds rec) fuel ([],(0:Int))).bind (gCheck11B_K1 a_e a_kinds) else
 (loopM (gCheck11B_B2 a_e a_kinds rec) fuel ([],(0:Int))).bind (gCheck11B_K2 a_e a_kinds)
theorem gCheck11B_ok {rec:Ex→List Int→Option (Int × Int)}  (hrec : ∀ {x:Ex} {y:List Int} {r:Int × Int}, rec x y=some r→Pure Tryz.prog 104 [.agg (tE x), .one (.lst (y.map (fun x=>[AC.int .i64 x])))] (.tup [.one (.int .i64 r.1), .one (.int .i64 r.2)])) {a_e:Ex} {a_kinds:(List Int)} {r:Int × Int} (H:gCheck11B rec a_e a_kinds=some r):Pure Tryz.prog 104 [.agg (tE a_e), .one (.lst (a_kinds.map (fun x=>[AC.int .i64 x])))] (.tup [.one (.int .i64 r.1), .one (.int .i64 r.2)]):=by
 unfold gCheck11B at H
 rw [tE_eq a_e]
 refine po_ Tryz.func104 Tryz.ntmps104 ?_
 obtain ⟨r_1,c1,H⟩:=bd_ H
 replace c1:=gArity_ok c1
 rcases cnd_ H with ⟨q_2,H⟩|⟨q_2,H⟩
 ·cases H
  exact go_
 obtain ⟨r_3,c2,H⟩:=bd_ H
 replace c2:=gFormedR_ok c2
 try simp only [List.map_append,List.map_cons,List.map_nil,List.nil_append,tE_eq] at c2
 rcases cnd_ H with ⟨q_4,H⟩|⟨q_4,H⟩
 ·cases H
  exact go_
 rcases cnd_ H with ⟨q_5,H⟩|⟨q_5,H⟩
 ·rcases cnd_ H with ⟨q_6,H⟩|⟨q_6,H⟩
  ·cases H
   exact go_
  rcases cnd_ H with ⟨q_7,H⟩|⟨q_7,H⟩
  ·cases H
   exact go_
  refine gt_ ?_
  refine aw_tok 8 1 rfl ?_
  refine alM_ (fun s:(List Int) × Int=>match s with|(l_8,i_9)=>[(1, .one (.c (.lst (a_kinds.map (fun x=>[AC.int .i64 x]))))),(2, .one (.ptr 0 0)),(8, .one (.own (l_8.map (fun x=>[AC.int .i64 x])) 1)),(9, .one (.c (.int .i64 i_9)))]) (fun s=>match s with|(l_8,i_9)=>[.box [.c (.int .i64 a_e.op), .c (.int .i64 a_e.int), .c (.int .i64 a_e.v.kind), .c (.int .i64 a_e.v.int), .c (.str a_e.v.text), .c (.str a_e.nm), .c (.lst (a_e.args.map tE))], .spare l_8.length 1]) H (fun _=>Nat.zero_le _)
   (fm_ br_ [] rfl bt_ bo_) ?_
  rintro ⟨l_8,i_9⟩ st1 hb1 hk1
  unfold gCheck11B_B1 at hb1
  dsimp only at hb1 ⊢
  rcases cnd_ hb1 with ⟨q_10,hb1⟩|⟨q_10,hb1⟩
  ·obtain ⟨x_11,i3z,i3,i3x,hb1⟩:=idx_ (f:=tE) hb1
   simp only [List.map_append,List.map_cons,List.map_nil,List.nil_append,tE_eq] at i3x
   obtain ⟨r_12,c4,hb1⟩:=bd_ hb1
   replace c4:=hrec c4
   try simp only [List.map_append,List.map_cons,List.map_nil,List.nil_append,tE_eq] at c4
   rcases cnd_ hb1 with ⟨q_13,hb1⟩|⟨q_13,hb1⟩
   ·cases hb1
    have hx1:gCheck11B_K1 a_e a_kinds (.inr ((0:Int),r_12.2))=some _:=hk1
    unfold gCheck11B_K1 at hx1
    dsimp only at hx1
    cases hx1
    exact go_
   obtain ⟨g5,hb1⟩:=grd_d hb1
   cases hb1
   refine gt_ ?_
   exact ⟨_,rfl,fm_ bs_ [] be_ bt_ bo_⟩
  cases hb1
  have hx1:gCheck11B_K1 a_e a_kinds (.inl (l_8,i_9))=some _:=hk1
  unfold gCheck11B_K1 at hx1
  dsimp only at hx1
  obtain ⟨r_14,c6,hx1⟩:=bd_ hx1
  replace c6:=gResult11_ok c6
  try simp only [List.map_append,List.map_cons,List.map_nil,List.nil_append,tE_eq] at c6
  rcases cnd_ hx1 with ⟨q_15,hx1⟩|⟨q_15,hx1⟩
  ·cases hx1
   exact go_
  cases hx1
  exact go_
 refine gt_ ?_
 refine aw_tok 8 1 rfl ?_
 refine alM_ (fun s:(List Int) × Int=>match s with|(l_16,i_17)=>[(1, .one (.c (.lst (a_kinds.map (fun x=>[AC.int .i64 x]))))),(2, .one (.ptr 0 0)),(8, .one (.own (l_16.map (fun x=>[AC.int .i64 x])) 1)),(9, .one (.c (.int .i64 i_17)))]) (fun s=>match s with|(l_16,i_17)=>[.box [.c (.int .i64 a_e.op), .c (.int .i64 a_e.int), .c (.int .i64 a_e.v.kind), .c (.int .i64 a_e.v.int), .c (.str a_e.v.text), .c (.str a_e.nm), .c (.lst (a_e.args.map tE))], .spare l_16.length 1]) H (fun _=>Nat.zero_le _)
  (fm_ br_ [] rfl bt_ bo_) ?_
 rintro ⟨l_16,i_17⟩ st2 hb2 hk2
 unfold gCheck11B_B2 at hb2
 dsimp only at hb2 ⊢
 rcases cnd_ hb2 with ⟨q_18,hb2⟩|⟨q_18,hb2⟩
 ·obtain ⟨x_19,i7z,i7,i7x,hb2⟩:=idx_ (f:=tE) hb2
  simp only [List.map_append,List.map_cons,List.map_nil,List.nil_append,tE_eq] at i7x
  obtain ⟨r_20,c8,hb2⟩:=bd_ hb2
  replace c8:=hrec c8
  try simp only [List.map_append,List.map_cons,List.map_nil,List.nil_append,tE_eq] at c8
  rcases cnd_ hb2 with ⟨q_21,hb2⟩|⟨q_21,hb2⟩
  ·cases hb2
   have hx2:gCheck11B_K2 a_e a_kinds (.inr ((0:Int),r_20.2))=some _:=hk2
   unfold gCheck11B_K2 at hx2
   dsimp only at hx2
   cases hx2
   exact go_
  obtain ⟨g9,hb2⟩:=grd_d hb2
  cases hb2
  refine gt_ ?_
  exact ⟨_,rfl,fm_ bs_ [] be_ bt_ bo_⟩
 cases hb2
 have hx2:gCheck11B_K2 a_e a_kinds (.inl (l_16,i_17))=some _:=hk2
 unfold gCheck11B_K2 at hx2
 dsimp only at hx2
 obtain ⟨r_22,c10,hx2⟩:=bd_ hx2
 replace c10:=gResult11_ok c10
 try simp only [List.map_append,List.map_cons,List.map_nil,List.nil_append,tE_eq] at c10
 rcases cnd_ hx2 with ⟨q_23,hx2⟩|⟨q_23,hx2⟩
 ·cases hx2
  exact go_
 cases hx2
 exact go_
def gCheck11:Nat→Ex→List Int→Option (Int × Int)
 | 0,_,_=>none
 | n+1,x,y=>gCheck11B (gCheck11 n) x y
theorem gCheck11_ok : ∀ (n:Nat) {x:Ex} {y:List Int} {r:Int × Int}, gCheck11 n x y=some r→Pure Tryz.prog 104 [.agg (tE x), .one (.lst (y.map (fun x=>[AC.int .i64 x])))] (.tup [.one (.int .i64 r.1), .one (.int .i64 r.2)])
 | 0,_,_,_,h=>nomatch h
 | n+1,_,_,_,h=>gCheck11B_ok (gCheck11_ok n) h
def gChk11 (a_e:Ex) (a_kinds:(List Int)):Option (Int × Int):=(gDepth11 fuel a_e).bind fun r_1=>bif (decide ((24:Int)<r_1)) then some ((0:Int),(26:Int)) else
 (gCheck11 fuel a_e a_kinds).bind fun r_3=>some (r_3.1,r_3.2)
theorem gChk11_ok {a_e:Ex} {a_kinds:(List Int)} {r:Int × Int} (H:gChk11 a_e a_kinds=some r):Pure Tryz.prog 66 [.agg (tE a_e), .one (.lst (a_kinds.map (fun x=>[AC.int .i64 x])))] (.tup [.one (.int .i64 r.1), .one (.int .i64 r.2)]):=by
 unfold gChk11 at H
 rw [tE_eq a_e]
 refine po_ Tryz.func66 Tryz.ntmps66 ?_
 obtain ⟨r_1,c1,H⟩:=bd_ H
 replace c1:=gDepth11_ok fuel c1
 try simp only [List.map_append,List.map_cons,List.map_nil,List.nil_append,tE_eq] at c1
 rcases cnd_ H with ⟨q_2,H⟩|⟨q_2,H⟩
 ·cases H
  exact go_
 obtain ⟨r_3,c2,H⟩:=bd_ H
 replace c2:=gCheck11_ok fuel c2
 try simp only [List.map_append,List.map_cons,List.map_nil,List.nil_append,tE_eq] at c2
 cases H
 exact go_
def gPred21 (a_e:Ex) (a_kinds:(List Int)):Option (Int):=(gChk11 a_e a_kinds).bind fun r_1=>bif (decide (r_1.2≠(0:Int))) then some r_1.2 else
 bif (decide (r_1.1≠(3:Int))) then bif (decide (r_1.1≠(0:Int))) then some (7:Int) else
 some (0:Int) else
 some (0:Int)
theorem gPred21_ok {a_e:Ex} {a_kinds:(List Int)} {r:Int} (H:gPred21 a_e a_kinds=some r):Pure Tryz.prog 39 [.agg (tE a_e), .one (.lst (a_kinds.map (fun x=>[AC.int .i64 x])))] (.val (.one (.int .i64 r))):=by
 unfold gPred21 at H
 rw [tE_eq a_e]
 refine po_ Tryz.func39 Tryz.ntmps39 ?_
 obtain ⟨r_1,c1,H⟩:=bd_ H
 replace c1:=gChk11_ok c1
 try simp only [List.map_append,List.map_cons,List.map_nil,List.nil_append,tE_eq] at c1
 rcases cnd_ H with ⟨q_2,H⟩|⟨q_2,H⟩
 ·cases H
  exact go_
 rcases cnd_ H with ⟨q_3,H⟩|⟨q_3,H⟩
 ·rcases cnd_ H with ⟨q_4,H⟩|⟨q_4,H⟩
  ·cases H
   exact go_
  cases H
  exact go_
 cases H
 exact go_
def gWeightB_B1 (a_e:Ex) (a_most:Int) (rec:Ex→Int→Option Int):(Int × Int)→Option (Step (Int × Int) (Int)):=fun s=>match s with
 | (n_1,i_2)=>bif (decide (i_2<((a_e.args.length:Nat):Int))) then bif (decide (n_1<a_most)) then (getI a_e.args i_2).bind fun x_5=>(rec x_5 (IntKind.i64.wrap (a_most-n_1))).bind fun r_6=>some (.next ((IntKind.i64.wrap (n_1+r_6)),(IntKind.i64.wrap (i_2+(1:Int))))) else
 some (.exit (n_1,i_2)) else
 some (.exit (n_1,i_2))
def gWeightB_K1:Sum (Int × Int) (Int)→Option ((Int))
 | .inl (n_1,i_2)=>some n_1
 | .inr q=>some q
def gWeightB (rec:Ex→Int→Option Int) (a_e:Ex) (a_most:Int):Option (Int):=(loopM (gWeightB_B1 a_e a_most rec) fuel ((1:Int),(0:Int))).bind (gWeightB_K1)
theorem gWeightB_ok {rec:Ex→Int→Option Int}  (hrec : ∀ {x:Ex} {y:Int} {r:Int}, rec x y=some r→Pure Tryz.prog 72 [.agg (tE x), .one (.int .i64 y)] (.val (.one (.int .i64 r)))) {a_e:Ex} {a_most:Int} {r:Int} (H:gWeightB rec a_e a_most=some r):Pure Tryz.prog 72 [.agg (tE a_e), .one (.int .i64 a_most)] (.val (.one (.int .i64 r))):=by
 unfold gWeightB at H
 rw [tE_eq a_e]
 refine po_ Tryz.func72 Tryz.ntmps72 ?_
 refine gt_ ?_
 refine alM_ (fun s:Int × Int=>match s with|(n_1,i_2)=>[(1, .one (.c (.int .i64 a_most))),(2, .one (.ptr 0 0)),(5, .one (.c (.int .i64 n_1))),(6, .one (.c (.int .i64 i_2)))]) (fun s=>match s with|(n_1,i_2)=>[.box [.c (.int .i64 a_e.op), .c (.int .i64 a_e.int), .c (.int .i64 a_e.v.kind), .c (.int .i64 a_e.v.int), .c (.str a_e.v.text), .c (.str a_e.nm), .c (.lst (a_e.args.map tE))]]) H (fun _=>Nat.zero_le _)
  (fm_ br_ [] rfl bt_ bo_) ?_
 rintro ⟨n_1,i_2⟩ st1 hb1 hk1
 unfold gWeightB_B1 at hb1
 dsimp only at hb1 ⊢
 rcases cnd_ hb1 with ⟨q_3,hb1⟩|⟨q_3,hb1⟩
 ·rcases cnd_ hb1 with ⟨q_4,hb1⟩|⟨q_4,hb1⟩
  ·obtain ⟨x_5,i1z,i1,i1x,hb1⟩:=idx_ (f:=tE) hb1
   simp only [List.map_append,List.map_cons,List.map_nil,List.nil_append,tE_eq] at i1x
   obtain ⟨r_6,c2,hb1⟩:=bd_ hb1
   replace c2:=hrec c2
   try simp only [List.map_append,List.map_cons,List.map_nil,List.nil_append,tE_eq] at c2
   cases hb1
   refine gt_ ?_
   exact ⟨_,rfl,fm_ br_ [] rfl bt_ bo_⟩
  cases hb1
  have hx1:gWeightB_K1 (.inl (n_1,i_2))=some _:=hk1
  unfold gWeightB_K1 at hx1
  dsimp only at hx1
  cases hx1
  exact go_
 cases hb1
 have hx1:gWeightB_K1 (.inl (n_1,i_2))=some _:=hk1
 unfold gWeightB_K1 at hx1
 dsimp only at hx1
 cases hx1
 exact go_
def gWeight:Nat→Ex→Int→Option Int
 | 0,_,_=>none
 | n+1,x,y=>gWeightB (gWeight n) x y
theorem gWeight_ok : ∀ (n:Nat) {x:Ex} {y:Int} {r:Int}, gWeight n x y=some r→Pure Tryz.prog 72 [.agg (tE x), .one (.int .i64 y)] (.val (.one (.int .i64 r)))
 | 0,_,_,_,h=>nomatch h
 | n+1,_,_,_,h=>gWeightB_ok (gWeight_ok n) h
def gSmall (a_l:(List Ex)) (a_most:Int):Option (Bool):=(gWeight fuel (Ex.mk (0:Int) (0:Int) (⟨(0:Int),(0:Int),ByteArray.empty⟩:Val) ByteArray.empty a_l) (IntKind.i64.wrap (a_most+(2:Int)))).bind fun r_1=>some (decide (r_1≤(IntKind.i64.wrap (a_most+(1:Int)))))
theorem gSmall_ok {a_l:(List Ex)} {a_most:Int} {r:Bool} (H:gSmall a_l a_most=some r):Pure Tryz.prog 38 [.one (.lst (a_l.map tE)), .one (.int .i64 a_most)] (.val (.one (.bool r))):=by
 unfold gSmall at H
 refine po_ Tryz.func38 Tryz.ntmps38 ?_
 obtain ⟨r_1,c1,H⟩:=bd_ H
 replace c1:=gWeight_ok fuel c1
 try simp only [List.map_append,List.map_cons,List.map_nil,List.nil_append,tE_eq] at c1
 cases H
 exact go_
theorem weight_loop (e:Ex) (m:Int) (hm:1≤m∧m≤1000) (rec:Ex→Int→Option Int)
  (hrec : ∀ x∈e.args, ∀ k:Int,1≤k→k<m → ∃ r,rec x k=some r∧1≤r∧r≤k∧(r<k→exOK r.toNat x)) :
  ∀ (N i:Nat) (c:Int),1≤c→c≤m→i≤e.args.length→(m-c).toNat<N→(i:Int)≤c →
   ∃ r j,loopM (gWeightB_B1 e m rec) N (c,(i:Int))=some (.inl (r,j))∧c≤r∧r≤m∧(r<m→((e.args.length-i:Nat):Int)≤r-c ∧ ∀ x∈e.args.drop i,exOK (r-c).toNat x)
 | 0,i,c,_,_,_,h,_=>by omega
 | N+1,i,c,h1,h2,hi,hN,hic=>by
  rw [loopM]
  by_cases hlt:i<e.args.length
  ·obtain ⟨x,hx⟩:=gol_ hlt
   have hmem:=List.mem_of_getElem? hx
   by_cases hc:c<m
   ·obtain ⟨w,hw,w1,w2,w3⟩:=hrec x hmem (m-c) (by omega) (by omega)
    have hb:gWeightB_B1 e m rec (c,(i:Int))=some (.next (c+w,((i+1:Nat):Int))):=by
     unfold gWeightB_B1
     dsimp only
     rw [lt_dec hx,cond_true,decide_eq_true hc,cond_true,gn_ hx,Option.bind_some,wrap_in (by omega),hw,Option.bind_some,wrap_in (by omega),wrapN (by omega)]
    rw [hb]
    obtain ⟨r,j,e1,e2,e3,e4⟩:=weight_loop e m hm rec hrec N (i+1) (c+w) (by omega) (by omega) (by omega) (by omega) (by omega)
    refine ⟨r,j,e1,by omega,e3,fun hr=>?_⟩
    obtain ⟨f1,f2⟩:=e4 hr
    refine ⟨by omega,fun y hy=>?_⟩
    rw [List.drop_eq_getElem_cons hlt,(List.getElem?_eq_some_iff.1 hx).2] at hy
    rcases List.mem_cons.1 hy with rfl|hy
    ·exact exOK_mono (by omega) (w3 (by omega))
    ·exact exOK_mono (by omega) (f2 y hy)
   ·have hb:gWeightB_B1 e m rec (c,(i:Int))=some (.exit (c,(i:Int))):=by
     unfold gWeightB_B1
     dsimp only
     rw [lt_dec hx,cond_true,decide_eq_false hc,cond_false]
    rw [hb]
    exact ⟨c,_,rfl,Int.le_refl _,h2,fun hr=>absurd hr hc⟩
  ·have:i=e.args.length:=by omega
   subst this
   have hb:gWeightB_B1 e m rec (c,((e.args.length:Nat):Int))=some (.exit (c,((e.args.length:Nat):Int))):=by
    unfold gWeightB_B1
    dsimp only
    rw [lF_,cond_false]
   rw [hb]
   refine ⟨c,_,rfl,Int.le_refl _,h2,fun hr=>⟨by omega,fun y hy=>?_⟩⟩
   rw [List.drop_length] at hy
   cases hy
theorem weight_ok : ∀ (n:Nat) (e:Ex) (m:Int),1≤m→m≤1000→m≤(n:Int) → ∃ r,gWeight n e m=some r∧1≤r∧r≤m∧(r<m→exOK r.toNat e∧((e.args.length:Nat):Int)<r ∧ ∀ x∈e.args,exOK (r-1).toNat x)
 | 0,e,m,h1,_,h3=>by omega
 | n+1,e,m,h1,h2,h3=>by
  have hrec : ∀ x∈e.args, ∀ k:Int,1≤k→k<m → ∃ r,gWeight n x k=some r∧1≤r∧r≤k∧(r<k→exOK r.toNat x):=by
   intro x _ k k1 k2
   obtain ⟨r,e1,e2,e3,e4⟩:=weight_ok n x k k1 (by omega) (by omega)
   exact ⟨r,e1,e2,e3,fun h=>(e4 h).1⟩
  obtain ⟨r,j,e1,e2,e3,e4⟩:=weight_loop e m ⟨h1,h2⟩ (gWeight n) hrec fuel 0 1 (Int.le_refl _) h1 (Nat.zero_le _) (by unfold fuel;omega) (by omega)
  refine ⟨r,?_,e2,e3,fun hr=>?_⟩
  ·show gWeightB (gWeight n) e m=_
   unfold gWeightB
   rw [show ((0:Nat):Int)=0 from rfl] at e1
   rw [e1];rfl
  ·obtain ⟨f1,f2⟩:=e4 hr
   rw [List.drop_zero] at f2
   refine ⟨?_,by omega,f2⟩
   obtain ⟨k,hk⟩ : ∃ k,r.toNat=k+1:=⟨r.toNat-1,by omega⟩
   rw [hk]
   refine ⟨by omega,fun x hx=>?_⟩
   have:=f2 x hx
   rwa [show (r-1).toNat=k by omega] at this
theorem small_sem (l:List Ex) : ∃ b,gSmall l 200=some b∧(b=true→l.length≤200 ∧ ∀ e∈l,exOK 200 e):=by
 obtain ⟨r,e1,e2,e3,e4⟩:=weight_ok fuel (Ex.mk 0 0 ⟨0,0,ByteArray.empty⟩ ByteArray.empty l) 202 (by omega) (by omega) (by unfold fuel;omega)
 refine ⟨decide (r≤201),?_,fun h=>?_⟩
 ·unfold gSmall
  rw [wrap_in (by omega),wrap_in (by omega)]
  show (gWeight fuel (Ex.mk 0 0 ⟨0,0,ByteArray.empty⟩ ByteArray.empty l) 202).bind _=_
  rw [e1];rfl
 ·have:=of_decide_eq_true h
  obtain ⟨_,f1,f2⟩:=e4 (by omega)
  exact ⟨by have:((l.length:Nat):Int)<r:=f1;omega,fun e he=>exOK_mono (by omega) (f2 e he)⟩
theorem exOK_fuel {e:Ex} (h:exOK 200 e):exOK fuel e:=exOK_mono (by unfold fuel;omega) h
set_option maxHeartbeats 8000000
def gUnite_B1 (a_l:(List Int)):(Int × Int)→Option (Step (Int × Int) (Int × Bool)):=fun s=>match s with
 | (kind_1,v_2)=>bif (decide (v_2<((a_l.length:Nat):Int))) then (getI a_l v_2).bind fun x_4=>bif (decide (x_4=(0:Int))) then some (.next (kind_1,(IntKind.i64.wrap (v_2+(1:Int))))) else
 bif (decide (kind_1≠(0:Int))) then bif (decide (kind_1≠x_4)) then some (.ret ((0:Int),false)) else
 some (.next (x_4,(IntKind.i64.wrap (v_2+(1:Int))))) else
 some (.next (x_4,(IntKind.i64.wrap (v_2+(1:Int))))) else
 some (.exit (kind_1,v_2))
def gUnite_K1:Sum (Int × Int) (Int × Bool)→Option ((Int × Bool))
 | .inl (kind_1,v_2)=>some (kind_1,true)
 | .inr q=>some q
def gUnite (a_l:(List Int)):Option (Int × Bool):=(loopM (gUnite_B1 a_l) fuel ((0:Int),(0:Int))).bind (gUnite_K1)
def allOk (l:List Int):Bool := !l.isEmpty&&decide (l.length≤100000)
def gAllP (l:List Int) (k:Int):Option Bool:=bif allOk l then (gUnite (l++[k])).bind fun r=>some (bif r.2 then decide (r.1=k) else false) else none
def gRsP (a_e:Ex) (a_l:(List Int)):Option (Int × Bool):=bif (decide (a_e.op=(1:Int))) then some (a_e.v.kind,true) else
 bif (decide (a_e.op=(4:Int))) then (gAllP a_l (3:Int)).bind fun r_3=>some ((3:Int),r_3) else
 bif (decide (a_e.op=(5:Int))) then (gAllP a_l (3:Int)).bind fun r_5=>some ((3:Int),r_5) else
 bif (decide (a_e.op=(6:Int))) then (gAllP a_l (3:Int)).bind fun r_7=>some ((3:Int),r_7) else
 bif (decide (a_e.op=(7:Int))) then (gUnite a_l).bind fun r_9=>some ((3:Int),r_9.2) else
 bif (decide (a_e.op=(8:Int))) then (gUnite a_l).bind fun r_11=>some ((3:Int),r_11.2) else
 bif (decide (a_e.op=(9:Int))) then (gUnite a_l).bind fun r_13=>some ((3:Int),r_13.2) else
 bif (decide (a_e.op=(10:Int))) then (gUnite a_l).bind fun r_15=>some ((3:Int),r_15.2) else
 bif (decide (a_e.op=(11:Int))) then (gUnite a_l).bind fun r_17=>some ((3:Int),r_17.2) else
 bif (decide (a_e.op=(12:Int))) then (gUnite a_l).bind fun r_19=>some ((3:Int),r_19.2) else
 bif (decide (a_e.op=(19:Int))) then (gAllP a_l (2:Int)).bind fun r_21=>some ((2:Int),r_21) else
 bif (decide (a_e.op=(20:Int))) then (gAllP a_l (2:Int)).bind fun r_23=>some ((1:Int),r_23) else
 bif (decide (a_e.op=(21:Int))) then some ((3:Int),true) else
 bif (decide (a_e.op=(22:Int))) then (subI a_l (1:Int) ((a_l.length:Nat):Int)).bind fun s_26=>(gUnite s_26).bind fun r_27=>bif r_27.2 then (subI a_l (0:Int) (1:Int)).bind fun s_29=>(gAllP s_29 (3:Int)).bind fun r_30=>some (r_27.1,r_30) else
 some (r_27.1,false) else
 bif (decide (a_e.op=(23:Int))) then (gUnite a_l).bind fun r_32=>some (r_32.1,r_32.2) else
 bif (decide (a_e.op=(24:Int))) then (gAllP a_l (1:Int)).bind fun r_34=>some ((3:Int),r_34) else
 (gAllP a_l (1:Int)).bind fun r_35=>some ((1:Int),r_35)
def gDepthPB_B1 (a_e:Ex) (a_most:Int) (rec:Ex→Int→Option Int):(Int × Int)→Option (Step (Int × Int) (Int)):=fun s=>match s with
 | (n_2,v_3)=>bif (decide (v_3<((a_e.args.length:Nat):Int))) then (getI a_e.args v_3).bind fun x_5=>(rec x_5 (IntKind.i64.wrap (a_most-(1:Int)))).bind fun r_6=>some (.next ((mxI n_2 (IntKind.i64.wrap ((1:Int)+r_6))),(IntKind.i64.wrap (v_3+(1:Int))))) else
 some (.exit (n_2,v_3))
def gDepthPB_K1:Sum (Int × Int) (Int)→Option ((Int))
 | .inl (n_2,v_3)=>some n_2
 | .inr q=>some q
def gDepthPB (rec:Ex→Int→Option Int) (a_e:Ex) (a_most:Int):Option (Int):=bif (decide (a_most≤(1:Int))) then some (1:Int) else
 (loopM (gDepthPB_B1 a_e a_most rec) fuel ((1:Int),(0:Int))).bind (gDepthPB_K1)
def gDepthP:Nat→Ex→Int→Option Int
 | 0,_,_=>none
 | n+1,x,y=>gDepthPB (gDepthP n) x y
def gDepP (a_e:Ex):Option (Int):=(gDepthP fuel a_e (25:Int)).bind fun r_1=>some r_1
def gCheckPB_B1 (a_e:Ex) (a_kinds:(List Int)) (rec:Ex→List Int→Option (Int × Int)):((List Int) × Int)→Option (Step ((List Int) × Int) (Int × Int)):=fun s=>match s with
 | (l_9,v_10)=>bif (decide (v_10<((a_e.args.length:Nat):Int))) then (getI a_e.args v_10).bind fun x_12=>(rec x_12 a_kinds).bind fun r_13=>bif (decide (r_13.2≠(0:Int))) then some (.ret ((0:Int),r_13.2)) else
 bif (decide (l_9.length+1≤17592186044416)) then (some (.next ((l_9++[r_13.1]),(IntKind.i64.wrap (v_10+(1:Int)))))) else none else
 some (.exit (l_9,v_10))
def gCheckPB_K1 (a_e:Ex):Sum ((List Int) × Int) (Int × Int)→Option ((Int × Int))
 | .inl (l_9,v_10)=>(gRsP a_e l_9).bind fun r_15=>bif (!r_15.2) then some ((0:Int),(7:Int)) else
 some (r_15.1,(0:Int))
 | .inr q=>some q
def gCheckPB (rec:Ex→List Int→Option (Int × Int)) (a_e:Ex) (a_kinds:(List Int)):Option (Int × Int):=(gCounts a_e.op ((a_e.args.length:Nat):Int)).bind fun r_1=>bif (!r_1.2) then some ((0:Int),(7:Int)) else
 (gFormed a_e).bind fun r_3=>bif (!r_3) then some ((0:Int),(8:Int)) else
 bif (decide (a_e.op=(2:Int))) then bif (decide (a_e.int<(0:Int))) then some ((0:Int),(13:Int)) else
 bif (decide (((a_kinds.length:Nat):Int)≤a_e.int)) then some ((0:Int),(13:Int)) else
 (getI a_kinds a_e.int).bind fun x_8=>some (x_8,(0:Int)) else
 (loopM (gCheckPB_B1 a_e a_kinds rec) fuel ([],(0:Int))).bind (gCheckPB_K1 a_e)
def gCheckP:Nat→Ex→List Int→Option (Int × Int)
 | 0,_,_=>none
 | n+1,x,y=>gCheckPB (gCheckP n) x y
def gChkP (a_e:Ex) (a_kinds:(List Int)):Option (Int × Int):=(gDepP a_e).bind fun r_1=>bif (decide ((24:Int)<r_1)) then some ((0:Int),(26:Int)) else
 (gCheckP fuel a_e a_kinds).bind fun r_3=>some (r_3.1,r_3.2)
end Go.Proofs.YtfccopdbgfdcdaaGreatDoor
