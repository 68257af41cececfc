/- Parts of the proof, joined (N1 N2 N5). No condition. -/
import Derived.Test.YtnbnpnmkgemdeaaGreatDoorKD
set_option linter.unusedSimpArgs false
set_option linter.unusedVariables false
namespace Go.Proofs.YtnbnpnmkgemdeaaGreatDoor
open Go.RowKit Go.MapKept
set_option maxRecDepth 100000
set_option maxHeartbeats 8000000
set_option linter.unusedVariables false
set_option linter.unusedSimpArgs false
def gPV (a_p : Per) : Option (Bool) := bif (decide ((0 : Int) ≤ a_p.lo)) then
  bif (decide (a_p.lo < a_p.hi)) then
    some (decide (a_p.hi ≤ (1099511627776 : Int)))
  else
    some false
else
  some false
theorem gPV_ok {a_p : Per} {r : Bool} (H : gPV a_p = some r) : Pure Tryz.prog 43 [.agg (cPer a_p)] (.val (.one (.bool r))) := by
  unfold gPV at H
  refine pure_of_aw tab_ok Tryz.func43 rfl rfl Tryz.ntmps43 (by simp) ?_
  simp only [argT, PV.av, List.map_cons, List.map_nil]
  rcases Bool.eq_false_or_eq_true (decide ((0 : Int) ≤ a_p.lo)) with q_1 | q_1
  · rw [q_1, cond_true] at H
    rcases Bool.eq_false_or_eq_true (decide (a_p.lo < a_p.hi)) with q_2 | q_2
    · rw [q_2, cond_true] at H
      obtain rfl := Option.some.inj H
      exact go_
    · rw [q_2, cond_false] at H
      obtain rfl := Option.some.inj H
      exact go_
  · rw [q_1, cond_false] at H
    obtain rfl := Option.some.inj H
    exact go_
def gPC (a_p : Per) (a_t : Int) : Option (Bool) := (gPV a_p).bind fun r_1 => bif r_1 then
  bif (decide (a_p.lo ≤ a_t)) then
    some (decide (a_t < a_p.hi))
  else
    some false
else
  some false
theorem gPC_ok {a_p : Per} {a_t : Int} {r : Bool} (H : gPC a_p a_t = some r) : Pure Tryz.prog 67 [.agg (cPer a_p), .one (.int .i64 a_t)] (.val (.one (.bool r))) := by
  unfold gPC at H
  refine pure_of_aw tab_ok Tryz.func67 rfl rfl Tryz.ntmps67 (by simp) ?_
  simp only [argT, PV.av, List.map_cons, List.map_nil]
  obtain ⟨r_1, c1, H⟩ := bind_some H
  replace c1 := gPV_ok c1
  try simp only [List.map_append, List.map_cons, List.map_nil, List.nil_append, tE_eq, tP_eq] at c1
  rcases Bool.eq_false_or_eq_true r_1 with q_2 | q_2
  · rw [q_2, cond_true] at H
    rcases Bool.eq_false_or_eq_true (decide (a_p.lo ≤ a_t)) with q_3 | q_3
    · rw [q_3, cond_true] at H
      obtain rfl := Option.some.inj H
      exact go_
    · rw [q_3, cond_false] at H
      obtain rfl := Option.some.inj H
      exact go_
  · rw [q_2, cond_false] at H
    obtain rfl := Option.some.inj H
    exact go_
def gOf1 (a_p : Per) : Option (Bool) := some (decide (a_p.hi = (1099511627776 : Int)))
theorem gOf1_ok {a_p : Per} {r : Bool} (H : gOf1 a_p = some r) : Pure Tryz.prog 65 [.agg (cPer a_p)] (.val (.one (.bool r))) := by
  unfold gOf1 at H
  refine pure_of_aw tab_ok Tryz.func65 rfl rfl Tryz.ntmps65 (by simp) ?_
  simp only [argT, PV.av, List.map_cons, List.map_nil]
  obtain rfl := Option.some.inj H
  exact go_
def gOf2 (a_p : Per) (v_0 : Cla) : Option (Bool) := (gPC a_p v_0.lo).bind fun r_1 => some r_1
theorem gOf2_ok {a_p : Per} {v_0 : Cla} {r : Bool} (H : gOf2 a_p v_0 = some r) : Pure Tryz.prog 66 [.agg (cPer a_p), .one (.ref [.int .i64 v_0.kind, .int .i64 v_0.lo, .int .i64 v_0.hi])] (.val (.one (.bool r))) := by
  unfold gOf2 at H
  refine pure_of_aw tab_ok Tryz.func66 rfl rfl Tryz.ntmps66 (by simp) ?_
  simp only [argT, PV.av, List.map_cons, List.map_nil]
  obtain ⟨r_1, c1, H⟩ := bind_some H
  replace c1 := gPC_ok c1
  try simp only [List.map_append, List.map_cons, List.map_nil, List.nil_append, tE_eq, tP_eq] at c1
  obtain rfl := Option.some.inj H
  exact go_
def gOf3 (a_p : Per) (v_0 : Cla) : Option (Bool) := bif (decide (v_0.lo < v_0.hi)) then
  bif (decide (a_p.lo < v_0.hi)) then
    some (decide (v_0.lo < a_p.hi))
  else
    some false
else
  some false
theorem gOf3_ok {a_p : Per} {v_0 : Cla} {r : Bool} (H : gOf3 a_p v_0 = some r) : Pure Tryz.prog 68 [.agg (cPer a_p), .one (.ref [.int .i64 v_0.kind, .int .i64 v_0.lo, .int .i64 v_0.hi])] (.val (.one (.bool r))) := by
  unfold gOf3 at H
  refine pure_of_aw tab_ok Tryz.func68 rfl rfl Tryz.ntmps68 (by simp) ?_
  simp only [argT, PV.av, List.map_cons, List.map_nil]
  rcases Bool.eq_false_or_eq_true (decide (v_0.lo < v_0.hi)) with q_1 | q_1
  · rw [q_1, cond_true] at H
    rcases Bool.eq_false_or_eq_true (decide (a_p.lo < v_0.hi)) with q_2 | q_2
    · rw [q_2, cond_true] at H
      obtain rfl := Option.some.inj H
      exact go_
    · rw [q_2, cond_false] at H
      obtain rfl := Option.some.inj H
      exact go_
  · rw [q_1, cond_false] at H
    obtain rfl := Option.some.inj H
    exact go_
def gOf4 (a_p : Per) (v_0 : Cla) : Option (Bool) := bif (decide (v_0.lo ≤ v_0.hi)) then
  bif (decide (a_p.lo ≤ v_0.hi)) then
    some (decide (v_0.lo < a_p.hi))
  else
    some false
else
  some false
theorem gOf4_ok {a_p : Per} {v_0 : Cla} {r : Bool} (H : gOf4 a_p v_0 = some r) : Pure Tryz.prog 69 [.agg (cPer a_p), .one (.ref [.int .i64 v_0.kind, .int .i64 v_0.lo, .int .i64 v_0.hi])] (.val (.one (.bool r))) := by
  unfold gOf4 at H
  refine pure_of_aw tab_ok Tryz.func69 rfl rfl Tryz.ntmps69 (by simp) ?_
  simp only [argT, PV.av, List.map_cons, List.map_nil]
  rcases Bool.eq_false_or_eq_true (decide (v_0.lo ≤ v_0.hi)) with q_1 | q_1
  · rw [q_1, cond_true] at H
    rcases Bool.eq_false_or_eq_true (decide (a_p.lo ≤ v_0.hi)) with q_2 | q_2
    · rw [q_2, cond_true] at H
      obtain rfl := Option.some.inj H
      exact go_
    · rw [q_2, cond_false] at H
      obtain rfl := Option.some.inj H
      exact go_
  · rw [q_1, cond_false] at H
    obtain rfl := Option.some.inj H
    exact go_
def gOf5 (a_p : Per) : Option (Bool) := some true
theorem gOf5_ok {a_p : Per} {r : Bool} (H : gOf5 a_p = some r) : Pure Tryz.prog 70 [.agg (cPer a_p)] (.val (.one (.bool r))) := by
  unfold gOf5 at H
  refine pure_of_aw tab_ok Tryz.func70 rfl rfl Tryz.ntmps70 (by simp) ?_
  simp only [argT, PV.av, List.map_cons, List.map_nil]
  obtain rfl := Option.some.inj H
  exact go_
def gOf6 (a_p : Per) : Option (Bool) := some false
theorem gOf6_ok {a_p : Per} {r : Bool} (H : gOf6 a_p = some r) : Pure Tryz.prog 71 [.agg (cPer a_p)] (.val (.one (.bool r))) := by
  unfold gOf6 at H
  refine pure_of_aw tab_ok Tryz.func71 rfl rfl Tryz.ntmps71 (by simp) ?_
  simp only [argT, PV.av, List.map_cons, List.map_nil]
  obtain rfl := Option.some.inj H
  exact go_
def gOf (a_c : Cla) : Option (AC) := bif (decide (a_c.kind = (0 : Int))) then
  some (.fn 65 [] : AC)
else
  bif (decide (a_c.kind = (1 : Int))) then
    some (.fn 66 [.ref [.int .i64 a_c.kind, .int .i64 a_c.lo, .int .i64 a_c.hi]] : AC)
  else
    bif (decide (a_c.kind = (2 : Int))) then
      some (.fn 68 [.ref [.int .i64 a_c.kind, .int .i64 a_c.lo, .int .i64 a_c.hi]] : AC)
    else
      bif (decide (a_c.kind = (3 : Int))) then
        some (.fn 69 [.ref [.int .i64 a_c.kind, .int .i64 a_c.lo, .int .i64 a_c.hi]] : AC)
      else
        bif (decide (a_c.kind = (4 : Int))) then
          some (.fn 70 [] : AC)
        else
          some (.fn 71 [] : AC)
theorem gOf_ok {a_c : Cla} {r : AC} (H : gOf a_c = some r) : Pure Tryz.prog 42 [.agg (cCla a_c)] (.val (.agg [r])) := by
  unfold gOf at H
  refine pure_of_aw tab_ok Tryz.func42 rfl rfl Tryz.ntmps42 (by simp) ?_
  simp only [argT, PV.av, List.map_cons, List.map_nil]
  rcases Bool.eq_false_or_eq_true (decide (a_c.kind = (0 : Int))) with q_1 | q_1
  · rw [q_1, cond_true] at H
    obtain rfl := Option.some.inj H
    exact go_
  · rw [q_1, cond_false] at H
    rcases Bool.eq_false_or_eq_true (decide (a_c.kind = (1 : Int))) with q_2 | q_2
    · rw [q_2, cond_true] at H
      repeat' (first | refine p_ rfl rfl rfl rfl rfl ?_ | refine st_nil ?_ | refine x_ rfl rfl rfl rfl rfl rfl rfl rfl ?_ | refine l_ rfl rfl rfl rfl ?_ | refine s_ rfl rfl rfl ?_ | refine t_ rfl rfl rfl rfl ?_ | refine k_ rfl rfl rfl ?_ | refine k0_ rfl rfl ?_ | refine c_ rfl rfl rfl rfl ?_ | refine pick_t rfl rfl rfl rfl rfl rfl rfl ?_ | refine pick_f rfl rfl rfl rfl rfl rfl rfl ?_ | refine aw_seq ?_ | refine aw_condT rfl ?_ | refine aw_condF rfl ?_ | refine aw_block ?_ | refine aw_exit ?_ | refine aw_ret ?_ | refine aw_skip ?_ | rw [List.length_map] | rw [mn_norm] | rw [mx_norm])
      refine aw_region tab_ok _ rfl ?_
      repeat' (first | refine p_ rfl rfl rfl rfl rfl ?_ | refine st_nil ?_ | refine x_ rfl rfl rfl rfl rfl rfl rfl rfl ?_ | refine l_ rfl rfl rfl rfl ?_ | refine s_ rfl rfl rfl ?_ | refine t_ rfl rfl rfl rfl ?_ | refine k_ rfl rfl rfl ?_ | refine k0_ rfl rfl ?_ | refine c_ rfl rfl rfl rfl ?_ | refine pick_t rfl rfl rfl rfl rfl rfl rfl ?_ | refine pick_f rfl rfl rfl rfl rfl rfl rfl ?_ | refine aw_seq ?_ | refine aw_condT rfl ?_ | refine aw_condF rfl ?_ | refine aw_block ?_ | refine aw_exit ?_ | refine aw_ret ?_ | refine aw_skip ?_ | rw [List.length_map] | rw [mn_norm] | rw [mx_norm])
      refine aw_region tab_ok _ rfl ?_
      repeat' (first | refine p_ rfl rfl rfl rfl rfl ?_ | refine st_nil ?_ | refine x_ rfl rfl rfl rfl rfl rfl rfl rfl ?_ | refine l_ rfl rfl rfl rfl ?_ | refine s_ rfl rfl rfl ?_ | refine t_ rfl rfl rfl rfl ?_ | refine k_ rfl rfl rfl ?_ | refine k0_ rfl rfl ?_ | refine c_ rfl rfl rfl rfl ?_ | refine pick_t rfl rfl rfl rfl rfl rfl rfl ?_ | refine pick_f rfl rfl rfl rfl rfl rfl rfl ?_ | refine aw_seq ?_ | refine aw_condT rfl ?_ | refine aw_condF rfl ?_ | refine aw_block ?_ | refine aw_exit ?_ | refine aw_ret ?_ | refine aw_skip ?_ | rw [List.length_map] | rw [mn_norm] | rw [mx_norm])
      refine aw_region tab_ok _ rfl ?_
      repeat' (first | refine p_ rfl rfl rfl rfl rfl ?_ | refine st_nil ?_ | refine x_ rfl rfl rfl rfl rfl rfl rfl rfl ?_ | refine l_ rfl rfl rfl rfl ?_ | refine s_ rfl rfl rfl ?_ | refine t_ rfl rfl rfl rfl ?_ | refine k_ rfl rfl rfl ?_ | refine k0_ rfl rfl ?_ | refine c_ rfl rfl rfl rfl ?_ | refine pick_t rfl rfl rfl rfl rfl rfl rfl ?_ | refine pick_f rfl rfl rfl rfl rfl rfl rfl ?_ | refine aw_seq ?_ | refine aw_condT rfl ?_ | refine aw_condF rfl ?_ | refine aw_block ?_ | refine aw_exit ?_ | refine aw_ret ?_ | refine aw_skip ?_ | rw [List.length_map] | rw [mn_norm] | rw [mx_norm])
      refine aw_region tab_ok _ rfl ?_
      repeat' (first | refine p_ rfl rfl rfl rfl rfl ?_ | refine st_nil ?_ | refine x_ rfl rfl rfl rfl rfl rfl rfl rfl ?_ | refine l_ rfl rfl rfl rfl ?_ | refine s_ rfl rfl rfl ?_ | refine t_ rfl rfl rfl rfl ?_ | refine k_ rfl rfl rfl ?_ | refine k0_ rfl rfl ?_ | refine c_ rfl rfl rfl rfl ?_ | refine pick_t rfl rfl rfl rfl rfl rfl rfl ?_ | refine pick_f rfl rfl rfl rfl rfl rfl rfl ?_ | refine aw_seq ?_ | refine aw_condT rfl ?_ | refine aw_condF rfl ?_ | refine aw_block ?_ | refine aw_exit ?_ | refine aw_ret ?_ | refine aw_skip ?_ | rw [List.length_map] | rw [mn_norm] | rw [mx_norm])
      refine aw_freezeBox 0 (by rfl) (by rfl) ?_
      simp only [List.map_cons, List.map_nil, unA, unS, unC, capsC, List.drop, if_true, List.set]
      obtain rfl := Option.some.inj H
      exact go_
    · rw [q_2, cond_false] at H
      rcases Bool.eq_false_or_eq_true (decide (a_c.kind = (2 : Int))) with q_3 | q_3
      · rw [q_3, cond_true] at H
        repeat' (first | refine p_ rfl rfl rfl rfl rfl ?_ | refine st_nil ?_ | refine x_ rfl rfl rfl rfl rfl rfl rfl rfl ?_ | refine l_ rfl rfl rfl rfl ?_ | refine s_ rfl rfl rfl ?_ | refine t_ rfl rfl rfl rfl ?_ | refine k_ rfl rfl rfl ?_ | refine k0_ rfl rfl ?_ | refine c_ rfl rfl rfl rfl ?_ | refine pick_t rfl rfl rfl rfl rfl rfl rfl ?_ | refine pick_f rfl rfl rfl rfl rfl rfl rfl ?_ | refine aw_seq ?_ | refine aw_condT rfl ?_ | refine aw_condF rfl ?_ | refine aw_block ?_ | refine aw_exit ?_ | refine aw_ret ?_ | refine aw_skip ?_ | rw [List.length_map] | rw [mn_norm] | rw [mx_norm])
        refine aw_region tab_ok _ rfl ?_
        repeat' (first | refine p_ rfl rfl rfl rfl rfl ?_ | refine st_nil ?_ | refine x_ rfl rfl rfl rfl rfl rfl rfl rfl ?_ | refine l_ rfl rfl rfl rfl ?_ | refine s_ rfl rfl rfl ?_ | refine t_ rfl rfl rfl rfl ?_ | refine k_ rfl rfl rfl ?_ | refine k0_ rfl rfl ?_ | refine c_ rfl rfl rfl rfl ?_ | refine pick_t rfl rfl rfl rfl rfl rfl rfl ?_ | refine pick_f rfl rfl rfl rfl rfl rfl rfl ?_ | refine aw_seq ?_ | refine aw_condT rfl ?_ | refine aw_condF rfl ?_ | refine aw_block ?_ | refine aw_exit ?_ | refine aw_ret ?_ | refine aw_skip ?_ | rw [List.length_map] | rw [mn_norm] | rw [mx_norm])
        refine aw_region tab_ok _ rfl ?_
        repeat' (first | refine p_ rfl rfl rfl rfl rfl ?_ | refine st_nil ?_ | refine x_ rfl rfl rfl rfl rfl rfl rfl rfl ?_ | refine l_ rfl rfl rfl rfl ?_ | refine s_ rfl rfl rfl ?_ | refine t_ rfl rfl rfl rfl ?_ | refine k_ rfl rfl rfl ?_ | refine k0_ rfl rfl ?_ | refine c_ rfl rfl rfl rfl ?_ | refine pick_t rfl rfl rfl rfl rfl rfl rfl ?_ | refine pick_f rfl rfl rfl rfl rfl rfl rfl ?_ | refine aw_seq ?_ | refine aw_condT rfl ?_ | refine aw_condF rfl ?_ | refine aw_block ?_ | refine aw_exit ?_ | refine aw_ret ?_ | refine aw_skip ?_ | rw [List.length_map] | rw [mn_norm] | rw [mx_norm])
        refine aw_region tab_ok _ rfl ?_
        repeat' (first | refine p_ rfl rfl rfl rfl rfl ?_ | refine st_nil ?_ | refine x_ rfl rfl rfl rfl rfl rfl rfl rfl ?_ | refine l_ rfl rfl rfl rfl ?_ | refine s_ rfl rfl rfl ?_ | refine t_ rfl rfl rfl rfl ?_ | refine k_ rfl rfl rfl ?_ | refine k0_ rfl rfl ?_ | refine c_ rfl rfl rfl rfl ?_ | refine pick_t rfl rfl rfl rfl rfl rfl rfl ?_ | refine pick_f rfl rfl rfl rfl rfl rfl rfl ?_ | refine aw_seq ?_ | refine aw_condT rfl ?_ | refine aw_condF rfl ?_ | refine aw_block ?_ | refine aw_exit ?_ | refine aw_ret ?_ | refine aw_skip ?_ | rw [List.length_map] | rw [mn_norm] | rw [mx_norm])
        refine aw_region tab_ok _ rfl ?_
        repeat' (first | refine p_ rfl rfl rfl rfl rfl ?_ | refine st_nil ?_ | refine x_ rfl rfl rfl rfl rfl rfl rfl rfl ?_ | refine l_ rfl rfl rfl rfl ?_ | refine s_ rfl rfl rfl ?_ | refine t_ rfl rfl rfl rfl ?_ | refine k_ rfl rfl rfl ?_ | refine k0_ rfl rfl ?_ | refine c_ rfl rfl rfl rfl ?_ | refine pick_t rfl rfl rfl rfl rfl rfl rfl ?_ | refine pick_f rfl rfl rfl rfl rfl rfl rfl ?_ | refine aw_seq ?_ | refine aw_condT rfl ?_ | refine aw_condF rfl ?_ | refine aw_block ?_ | refine aw_exit ?_ | refine aw_ret ?_ | refine aw_skip ?_ | rw [List.length_map] | rw [mn_norm] | rw [mx_norm])
        refine aw_region tab_ok _ rfl ?_
        repeat' (first | refine p_ rfl rfl rfl rfl rfl ?_ | refine st_nil ?_ | refine x_ rfl rfl rfl rfl rfl rfl rfl rfl ?_ | refine l_ rfl rfl rfl rfl ?_ | refine s_ rfl rfl rfl ?_ | refine t_ rfl rfl rfl rfl ?_ | refine k_ rfl rfl rfl ?_ | refine k0_ rfl rfl ?_ | refine c_ rfl rfl rfl rfl ?_ | refine pick_t rfl rfl rfl rfl rfl rfl rfl ?_ | refine pick_f rfl rfl rfl rfl rfl rfl rfl ?_ | refine aw_seq ?_ | refine aw_condT rfl ?_ | refine aw_condF rfl ?_ | refine aw_block ?_ | refine aw_exit ?_ | refine aw_ret ?_ | refine aw_skip ?_ | rw [List.length_map] | rw [mn_norm] | rw [mx_norm])
        refine aw_freezeBox 0 (by rfl) (by rfl) ?_
        simp only [List.map_cons, List.map_nil, unA, unS, unC, capsC, List.drop, if_true, List.set]
        obtain rfl := Option.some.inj H
        exact go_
      · rw [q_3, cond_false] at H
        rcases Bool.eq_false_or_eq_true (decide (a_c.kind = (3 : Int))) with q_4 | q_4
        · rw [q_4, cond_true] at H
          repeat' (first | refine p_ rfl rfl rfl rfl rfl ?_ | refine st_nil ?_ | refine x_ rfl rfl rfl rfl rfl rfl rfl rfl ?_ | refine l_ rfl rfl rfl rfl ?_ | refine s_ rfl rfl rfl ?_ | refine t_ rfl rfl rfl rfl ?_ | refine k_ rfl rfl rfl ?_ | refine k0_ rfl rfl ?_ | refine c_ rfl rfl rfl rfl ?_ | refine pick_t rfl rfl rfl rfl rfl rfl rfl ?_ | refine pick_f rfl rfl rfl rfl rfl rfl rfl ?_ | refine aw_seq ?_ | refine aw_condT rfl ?_ | refine aw_condF rfl ?_ | refine aw_block ?_ | refine aw_exit ?_ | refine aw_ret ?_ | refine aw_skip ?_ | rw [List.length_map] | rw [mn_norm] | rw [mx_norm])
          refine aw_region tab_ok _ rfl ?_
          repeat' (first | refine p_ rfl rfl rfl rfl rfl ?_ | refine st_nil ?_ | refine x_ rfl rfl rfl rfl rfl rfl rfl rfl ?_ | refine l_ rfl rfl rfl rfl ?_ | refine s_ rfl rfl rfl ?_ | refine t_ rfl rfl rfl rfl ?_ | refine k_ rfl rfl rfl ?_ | refine k0_ rfl rfl ?_ | refine c_ rfl rfl rfl rfl ?_ | refine pick_t rfl rfl rfl rfl rfl rfl rfl ?_ | refine pick_f rfl rfl rfl rfl rfl rfl rfl ?_ | refine aw_seq ?_ | refine aw_condT rfl ?_ | refine aw_condF rfl ?_ | refine aw_block ?_ | refine aw_exit ?_ | refine aw_ret ?_ | refine aw_skip ?_ | rw [List.length_map] | rw [mn_norm] | rw [mx_norm])
          refine aw_region tab_ok _ rfl ?_
          repeat' (first | refine p_ rfl rfl rfl rfl rfl ?_ | refine st_nil ?_ | refine x_ rfl rfl rfl rfl rfl rfl rfl rfl ?_ | refine l_ rfl rfl rfl rfl ?_ | refine s_ rfl rfl rfl ?_ | refine t_ rfl rfl rfl rfl ?_ | refine k_ rfl rfl rfl ?_ | refine k0_ rfl rfl ?_ | refine c_ rfl rfl rfl rfl ?_ | refine pick_t rfl rfl rfl rfl rfl rfl rfl ?_ | refine pick_f rfl rfl rfl rfl rfl rfl rfl ?_ | refine aw_seq ?_ | refine aw_condT rfl ?_ | refine aw_condF rfl ?_ | refine aw_block ?_ | refine aw_exit ?_ | refine aw_ret ?_ | refine aw_skip ?_ | rw [List.length_map] | rw [mn_norm] | rw [mx_norm])
          refine aw_region tab_ok _ rfl ?_
          repeat' (first | refine p_ rfl rfl rfl rfl rfl ?_ | refine st_nil ?_ | refine x_ rfl rfl rfl rfl rfl rfl rfl rfl ?_ | refine l_ rfl rfl rfl rfl ?_ | refine s_ rfl rfl rfl ?_ | refine t_ rfl rfl rfl rfl ?_ | refine k_ rfl rfl rfl ?_ | refine k0_ rfl rfl ?_ | refine c_ rfl rfl rfl rfl ?_ | refine pick_t rfl rfl rfl rfl rfl rfl rfl ?_ | refine pick_f rfl rfl rfl rfl rfl rfl rfl ?_ | refine aw_seq ?_ | refine aw_condT rfl ?_ | refine aw_condF rfl ?_ | refine aw_block ?_ | refine aw_exit ?_ | refine aw_ret ?_ | refine aw_skip ?_ | rw [List.length_map] | rw [mn_norm] | rw [mx_norm])
          refine aw_region tab_ok _ rfl ?_
          repeat' (first | refine p_ rfl rfl rfl rfl rfl ?_ | refine st_nil ?_ | refine x_ rfl rfl rfl rfl rfl rfl rfl rfl ?_ | refine l_ rfl rfl rfl rfl ?_ | refine s_ rfl rfl rfl ?_ | refine t_ rfl rfl rfl rfl ?_ | refine k_ rfl rfl rfl ?_ | refine k0_ rfl rfl ?_ | refine c_ rfl rfl rfl rfl ?_ | refine pick_t rfl rfl rfl rfl rfl rfl rfl ?_ | refine pick_f rfl rfl rfl rfl rfl rfl rfl ?_ | refine aw_seq ?_ | refine aw_condT rfl ?_ | refine aw_condF rfl ?_ | refine aw_block ?_ | refine aw_exit ?_ | refine aw_ret ?_ | refine aw_skip ?_ | rw [List.length_map] | rw [mn_norm] | rw [mx_norm])
          refine aw_region tab_ok _ rfl ?_
          repeat' (first | refine p_ rfl rfl rfl rfl rfl ?_ | refine st_nil ?_ | refine x_ rfl rfl rfl rfl rfl rfl rfl rfl ?_ | refine l_ rfl rfl rfl rfl ?_ | refine s_ rfl rfl rfl ?_ | refine t_ rfl rfl rfl rfl ?_ | refine k_ rfl rfl rfl ?_ | refine k0_ rfl rfl ?_ | refine c_ rfl rfl rfl rfl ?_ | refine pick_t rfl rfl rfl rfl rfl rfl rfl ?_ | refine pick_f rfl rfl rfl rfl rfl rfl rfl ?_ | refine aw_seq ?_ | refine aw_condT rfl ?_ | refine aw_condF rfl ?_ | refine aw_block ?_ | refine aw_exit ?_ | refine aw_ret ?_ | refine aw_skip ?_ | rw [List.length_map] | rw [mn_norm] | rw [mx_norm])
          refine aw_region tab_ok _ rfl ?_
          repeat' (first | refine p_ rfl rfl rfl rfl rfl ?_ | refine st_nil ?_ | refine x_ rfl rfl rfl rfl rfl rfl rfl rfl ?_ | refine l_ rfl rfl rfl rfl ?_ | refine s_ rfl rfl rfl ?_ | refine t_ rfl rfl rfl rfl ?_ | refine k_ rfl rfl rfl ?_ | refine k0_ rfl rfl ?_ | refine c_ rfl rfl rfl rfl ?_ | refine pick_t rfl rfl rfl rfl rfl rfl rfl ?_ | refine pick_f rfl rfl rfl rfl rfl rfl rfl ?_ | refine aw_seq ?_ | refine aw_condT rfl ?_ | refine aw_condF rfl ?_ | refine aw_block ?_ | refine aw_exit ?_ | refine aw_ret ?_ | refine aw_skip ?_ | rw [List.length_map] | rw [mn_norm] | rw [mx_norm])
          refine aw_freezeBox 0 (by rfl) (by rfl) ?_
          simp only [List.map_cons, List.map_nil, unA, unS, unC, capsC, List.drop, if_true, List.set]
          obtain rfl := Option.some.inj H
          exact go_
        · rw [q_4, cond_false] at H
          rcases Bool.eq_false_or_eq_true (decide (a_c.kind = (4 : Int))) with q_5 | q_5
          · rw [q_5, cond_true] at H
            obtain rfl := Option.some.inj H
            exact go_
          · rw [q_5, cond_false] at H
            obtain rfl := Option.some.inj H
            exact go_
def gSelect_B1 (a_l : (List Ver)) (sel : Per → Option (Bool)) : ((List Ver) × Int) → Option (Step ((List Ver) × Int) ((List Ver))) := fun s => match s with
  | (out_2, v_3) => bif (decide (v_3 < ((a_l.length : Nat) : Int))) then
    (getI a_l v_3).bind fun x_5 => (gPV x_5.system).bind fun r_6 => bif r_6 then
      (sel x_5.system).bind fun r_8 => bif r_8 then
        bif (decide (x_5.row.length ≤ 4398046511104)) then (bif (decide (out_2.length + 1 ≤ 1599289640401)) then (some (.next ((out_2 ++ [x_5]), (IntKind.i64.wrap (v_3 + (1 : Int)))))) else none) else none
      else
        some (.next (out_2, (IntKind.i64.wrap (v_3 + (1 : Int)))))
    else
      some (.next (out_2, (IntKind.i64.wrap (v_3 + (1 : Int)))))
  else
    some (.exit (out_2, v_3))
def gSelect_K1 : Sum ((List Ver) × Int) ((List Ver)) → Option (((List Ver)))
  | .inl (out_2, v_3) => some out_2
  | .inr q => some q
def gSelect (sel : Per → Option (Bool)) (a_l : (List Ver)) (a_c : Cla) : Option ((List Ver)) := (loopM (gSelect_B1 a_l sel) fuel ([], (0 : Int))).bind (gSelect_K1)
theorem gSelect_ok {sel : Per → Option (Bool)}  {F_sel : FuncId} {caps_sel : List AC} (hf_sel : ∀ (y0 : Per) (r : Bool), sel y0 = some r → Pure Tryz.prog F_sel ([.agg (cPer y0)] ++ caps_sel.map .one) (.val (.one (.bool r)))) {a_l : (List Ver)} {a_c : Cla} {r : (List Ver)} (hof : Pure Tryz.prog 42 [.agg (cCla a_c)] (.val (.agg [.fn F_sel caps_sel]))) (H : gSelect sel a_l a_c = some r) : Pure Tryz.prog 13 [.one (.lst (a_l.map cVer)), .agg (cCla a_c)] (.val (.one (.lst (r.map cVer)))) := by
  unfold gSelect at H
  refine pure_of_aw tab_ok Tryz.func13 rfl rfl Tryz.ntmps13 (by simp) ?_
  simp only [argT, PV.av, List.map_cons, List.map_nil]
  have hc_1 := hof
  try simp only [List.map_append, List.map_cons, List.map_nil, List.nil_append, tE_eq, tP_eq] at hc_1
  repeat' (first | refine p_ rfl rfl rfl rfl rfl ?_ | refine st_nil ?_ | refine x_ rfl rfl rfl rfl rfl rfl rfl rfl ?_ | refine l_ rfl rfl rfl rfl ?_ | refine s_ rfl rfl rfl ?_ | refine t_ rfl rfl rfl rfl ?_ | refine k_ rfl rfl rfl ?_ | refine k0_ rfl rfl ?_ | refine c_ rfl rfl rfl rfl ?_ | refine pick_t rfl rfl rfl rfl rfl rfl rfl ?_ | refine pick_f rfl rfl rfl rfl rfl rfl rfl ?_ | refine aw_seq ?_ | refine aw_region tab_ok _ rfl ?_ | refine aw_drawn2 tabS_ok _ rfl mixed (by decide +kernel) ?_ | refine aw_condT rfl ?_ | refine aw_condF rfl ?_ | refine aw_block ?_ | refine aw_exit ?_ | refine aw_ret ?_ | refine aw_skip ?_ | rw [List.length_map] | rw [mn_norm] | rw [mx_norm])
  refine aw_tok 6 9 rfl ?_
  refine aw_loopM (fun s : (List Ver) × Int => match s with | (out_2, v_3) => [(4, .one (.emp)), (5, .one (.ptr 1 0)), (6, .one (.own (out_2.map cVer) 2)), (11, .one (.c (.lst (a_l.map cVer)))), (12, .one (.c (.int .i64 ((a_l.length : Nat) : Int)))), (13, .one (.c (.int .i64 v_3)))]) (fun s => match s with | (out_2, v_3) => [.box [.c (.int .i64 a_c.kind), .c (.int .i64 a_c.lo), .c (.int .i64 a_c.hi)], .box [.c (.fn F_sel caps_sel)], .spare out_2.length 9]) H (fun _ => Nat.zero_le _)
    (fits_mk ⟨rfl, rfl, rfl, rfl, rfl, rfl, trivial⟩ [] rfl ⟨trivial, by show 1 < 3; omega, by show 2 < 3; omega, trivial, trivial, trivial, trivial⟩ ⟨ob_below (by rfl), ob_below (by rfl), trivial, trivial⟩) ?_
  rintro ⟨out_2, v_3⟩ st1 hb1 hk1
  unfold gSelect_B1 at hb1
  dsimp only at hb1 ⊢
  rcases Bool.eq_false_or_eq_true (decide (v_3 < ((a_l.length : Nat) : Int))) with q_4 | q_4
  · rw [q_4, cond_true] at hb1
    obtain ⟨x_5, i1, hb1⟩ := bind_some hb1
    obtain ⟨i1z, i1⟩ := getI_some i1
    have i1x := idxI (f := cVer) i1
    obtain ⟨r_6, c2, hb1⟩ := bind_some hb1
    replace c2 := gPV_ok c2
    try simp only [List.map_append, List.map_cons, List.map_nil, List.nil_append, tE_eq, tP_eq] at c2
    rcases Bool.eq_false_or_eq_true r_6 with q_7 | q_7
    · rw [q_7, cond_true] at hb1
      obtain ⟨r_8, c3, hb1⟩ := bind_some hb1
      replace c3 := hf_sel _ _ c3
      try simp only [List.map_append, List.map_cons, List.map_nil, List.nil_append, tE_eq, tP_eq] at c3
      rcases Bool.eq_false_or_eq_true r_8 with q_9 | q_9
      · rw [q_9, cond_true] at hb1
        obtain ⟨g4, hb1⟩ := grd_some hb1
        replace g4 := of_decide_eq_true g4
        obtain ⟨g5, hb1⟩ := grd_some hb1
        replace g5 := of_decide_eq_true g5
        obtain rfl := Option.some.inj hb1
        repeat' (first | refine p_ rfl rfl rfl rfl rfl ?_ | refine st_nil ?_ | refine x_ rfl rfl rfl rfl rfl rfl rfl rfl ?_ | refine l_ rfl rfl rfl rfl ?_ | refine s_ rfl rfl rfl ?_ | refine t_ rfl rfl rfl rfl ?_ | refine k_ rfl rfl rfl ?_ | refine k0_ rfl rfl ?_ | refine c_ rfl rfl rfl rfl ?_ | refine pick_t rfl rfl rfl rfl rfl rfl rfl ?_ | refine pick_f rfl rfl rfl rfl rfl rfl rfl ?_ | refine aw_seq ?_ | refine aw_region tab_ok _ rfl ?_ | refine aw_drawn2 tabS_ok _ rfl mixed (by decide +kernel) ?_ | refine aw_condT rfl ?_ | refine aw_condF rfl ?_ | refine aw_block ?_ | refine aw_exit ?_ | refine aw_ret ?_ | refine aw_skip ?_ | rw [List.length_map] | rw [mn_norm] | rw [mx_norm])
        exact ⟨_, rfl, fits_mk ⟨rfl, rfl, (by simp only [List.map_append, List.map_cons, List.map_nil, List.nil_append] <;> rfl), rfl, rfl, rfl, trivial⟩ [_, _] (by simp only [List.length_append, List.length_cons, List.length_nil, Nat.zero_add] <;> rfl) ⟨trivial, by show 1 < 3; omega, by show 2 < 3; omega, trivial, trivial, trivial, trivial⟩ ⟨ob_below (by rfl), ob_below (by rfl), trivial, trivial⟩⟩
      · rw [q_9, cond_false] at hb1
        obtain rfl := Option.some.inj hb1
        repeat' (first | refine p_ rfl rfl rfl rfl rfl ?_ | refine st_nil ?_ | refine x_ rfl rfl rfl rfl rfl rfl rfl rfl ?_ | refine l_ rfl rfl rfl rfl ?_ | refine s_ rfl rfl rfl ?_ | refine t_ rfl rfl rfl rfl ?_ | refine k_ rfl rfl rfl ?_ | refine k0_ rfl rfl ?_ | refine c_ rfl rfl rfl rfl ?_ | refine pick_t rfl rfl rfl rfl rfl rfl rfl ?_ | refine pick_f rfl rfl rfl rfl rfl rfl rfl ?_ | refine aw_seq ?_ | refine aw_region tab_ok _ rfl ?_ | refine aw_drawn2 tabS_ok _ rfl mixed (by decide +kernel) ?_ | refine aw_condT rfl ?_ | refine aw_condF rfl ?_ | refine aw_block ?_ | refine aw_exit ?_ | refine aw_ret ?_ | refine aw_skip ?_ | rw [List.length_map] | rw [mn_norm] | rw [mx_norm])
        exact ⟨_, rfl, fits_mk ⟨rfl, rfl, (by simp only [List.map_append, List.map_cons, List.map_nil, List.nil_append] <;> rfl), rfl, rfl, rfl, trivial⟩ [_] (by simp only [List.length_append, List.length_cons, List.length_nil, Nat.zero_add] <;> rfl) ⟨trivial, by show 1 < 3; omega, by show 2 < 3; omega, trivial, trivial, trivial, trivial⟩ ⟨ob_below (by rfl), ob_below (by rfl), trivial, trivial⟩⟩
    · rw [q_7, cond_false] at hb1
      obtain rfl := Option.some.inj hb1
      repeat' (first | refine p_ rfl rfl rfl rfl rfl ?_ | refine st_nil ?_ | refine x_ rfl rfl rfl rfl rfl rfl rfl rfl ?_ | refine l_ rfl rfl rfl rfl ?_ | refine s_ rfl rfl rfl ?_ | refine t_ rfl rfl rfl rfl ?_ | refine k_ rfl rfl rfl ?_ | refine k0_ rfl rfl ?_ | refine c_ rfl rfl rfl rfl ?_ | refine pick_t rfl rfl rfl rfl rfl rfl rfl ?_ | refine pick_f rfl rfl rfl rfl rfl rfl rfl ?_ | refine aw_seq ?_ | refine aw_region tab_ok _ rfl ?_ | refine aw_drawn2 tabS_ok _ rfl mixed (by decide +kernel) ?_ | refine aw_condT rfl ?_ | refine aw_condF rfl ?_ | refine aw_block ?_ | refine aw_exit ?_ | refine aw_ret ?_ | refine aw_skip ?_ | rw [List.length_map] | rw [mn_norm] | rw [mx_norm])
      exact ⟨_, rfl, fits_mk ⟨rfl, rfl, (by simp only [List.map_append, List.map_cons, List.map_nil, List.nil_append] <;> rfl), rfl, rfl, rfl, trivial⟩ [_] (by simp only [List.length_append, List.length_cons, List.length_nil, Nat.zero_add] <;> rfl) ⟨trivial, by show 1 < 3; omega, by show 2 < 3; omega, trivial, trivial, trivial, trivial⟩ ⟨ob_below (by rfl), ob_below (by rfl), trivial, trivial⟩⟩
  · rw [q_4, cond_false] at hb1
    obtain rfl := Option.some.inj hb1
    have hx1 : gSelect_K1 (.inl (out_2, v_3)) = some _ := hk1
    unfold gSelect_K1 at hx1
    dsimp only at hx1
    obtain rfl := Option.some.inj hx1
    exact go_
end Go.Proofs.YtnbnpnmkgemdeaaGreatDoor

namespace Go.Proofs.YtnbnpnmkgemdeaaGreatDoor
open Go.RowKit Go.MapKept
set_option maxRecDepth 100000
set_option maxHeartbeats 8000000
set_option linter.unusedVariables false
set_option linter.unusedSimpArgs false
def gFactsR_B1 (a_l : (List Ver)) : ((List Fct) × Int) → Option (Step ((List Fct) × Int) ((List Fct))) := fun s => match s with
  | (out_1, i_2) => bif (decide (i_2 < ((a_l.length : Nat) : Int))) then
    (getI a_l i_2).bind fun x_4 => bif (decide (out_1.length + 1 ≤ 3518437208883)) then (some (.next ((out_1 ++ [(⟨x_4.row, x_4.valid⟩ : Fct)]), (IntKind.i64.wrap (i_2 + (1 : Int)))))) else none
  else
    some (.exit (out_1, i_2))
def gFactsR_K1 : Sum ((List Fct) × Int) ((List Fct)) → Option (((List Fct)))
  | .inl (out_1, i_2) => some out_1
  | .inr q => some q
def gFactsR (a_l : (List Ver)) : Option ((List Fct)) := (loopM (gFactsR_B1 a_l) fuel ([], (0 : Int))).bind (gFactsR_K1)
theorem gFactsR_ok {a_l : (List Ver)} {r : (List Fct)} (H : gFactsR a_l = some r) : Pure Tryz.prog 17 [.one (.lst (a_l.map cVer))] (.val (.one (.lst (r.map cFct)))) := by
  unfold gFactsR at H
  refine pure_of_aw tab_ok Tryz.func17 rfl rfl Tryz.ntmps17 (by simp) ?_
  simp only [argT, PV.av, List.map_cons, List.map_nil]
  repeat' (first | refine p_ rfl rfl rfl rfl rfl ?_ | refine st_nil ?_ | refine x_ rfl rfl rfl rfl rfl rfl rfl rfl ?_ | refine l_ rfl rfl rfl rfl ?_ | refine s_ rfl rfl rfl ?_ | refine t_ rfl rfl rfl rfl ?_ | refine k_ rfl rfl rfl ?_ | refine k0_ rfl rfl ?_ | refine c_ rfl rfl rfl rfl ?_ | refine pick_t rfl rfl rfl rfl rfl rfl rfl ?_ | refine pick_f rfl rfl rfl rfl rfl rfl rfl ?_ | refine aw_seq ?_ | refine aw_region tab_ok _ rfl ?_ | refine aw_drawn2 tabS_ok _ rfl mixed (by decide +kernel) ?_ | refine aw_condT rfl ?_ | refine aw_condF rfl ?_ | refine aw_block ?_ | refine aw_exit ?_ | refine aw_ret ?_ | refine aw_skip ?_ | rw [List.length_map] | rw [mn_norm] | rw [mx_norm])
  refine aw_tok 3 3 rfl ?_
  refine aw_loopM (fun s : (List Fct) × Int => match s with | (out_1, i_2) => [(0, .one (.c (.lst (a_l.map cVer)))), (2, .one (.emp)), (3, .one (.own (out_1.map cFct) 0)), (4, .one (.c (.int .i64 i_2)))]) (fun s => match s with | (out_1, i_2) => [.spare out_1.length 3]) H (fun _ => Nat.zero_le _)
    (fits_mk ⟨rfl, rfl, rfl, rfl, trivial⟩ [] rfl ⟨trivial, trivial, by show 0 < 1; omega, trivial, trivial⟩ ⟨trivial, trivial⟩) ?_
  rintro ⟨out_1, i_2⟩ st1 hb1 hk1
  unfold gFactsR_B1 at hb1
  dsimp only at hb1 ⊢
  rcases Bool.eq_false_or_eq_true (decide (i_2 < ((a_l.length : Nat) : Int))) with q_3 | q_3
  · rw [q_3, cond_true] at hb1
    obtain ⟨x_4, i1, hb1⟩ := bind_some hb1
    obtain ⟨i1z, i1⟩ := getI_some i1
    have i1x := idxI (f := cVer) i1
    obtain ⟨g2, hb1⟩ := grd_some hb1
    replace g2 := of_decide_eq_true g2
    obtain rfl := Option.some.inj hb1
    repeat' (first | refine p_ rfl rfl rfl rfl rfl ?_ | refine st_nil ?_ | refine x_ rfl rfl rfl rfl rfl rfl rfl rfl ?_ | refine l_ rfl rfl rfl rfl ?_ | refine s_ rfl rfl rfl ?_ | refine t_ rfl rfl rfl rfl ?_ | refine k_ rfl rfl rfl ?_ | refine k0_ rfl rfl ?_ | refine c_ rfl rfl rfl rfl ?_ | refine pick_t rfl rfl rfl rfl rfl rfl rfl ?_ | refine pick_f rfl rfl rfl rfl rfl rfl rfl ?_ | refine aw_seq ?_ | refine aw_region tab_ok _ rfl ?_ | refine aw_drawn2 tabS_ok _ rfl mixed (by decide +kernel) ?_ | refine aw_condT rfl ?_ | refine aw_condF rfl ?_ | refine aw_block ?_ | refine aw_exit ?_ | refine aw_ret ?_ | refine aw_skip ?_ | rw [List.length_map] | rw [mn_norm] | rw [mx_norm])
    exact ⟨_, rfl, fits_mk ⟨rfl, rfl, (by simp only [List.map_append, List.map_cons, List.map_nil, List.nil_append] <;> rfl), rfl, trivial⟩ [] (by simp only [List.length_append, List.length_cons, List.length_nil, Nat.zero_add] <;> rfl) ⟨trivial, trivial, by show 0 < 1; omega, trivial, trivial⟩ ⟨trivial, trivial⟩⟩
  · rw [q_3, cond_false] at hb1
    obtain rfl := Option.some.inj hb1
    have hx1 : gFactsR_K1 (.inl (out_1, i_2)) = some _ := hk1
    unfold gFactsR_K1 at hx1
    dsimp only at hx1
    obtain rfl := Option.some.inj hx1
    exact go_
def gFewR_B1 (a_l : (List Fct)) : (Int) → Option (Step (Int) (Bool)) := fun s => match s with
  | i_2 => bif (decide (i_2 < ((a_l.length : Nat) : Int))) then
    (getI a_l i_2).bind fun x_4 => bif (decide ((60 : Int) < ((x_4.row.length : Nat) : Int))) then
      some (.ret false)
    else
      some (.next (IntKind.i64.wrap (i_2 + (1 : Int))))
  else
    some (.exit i_2)
def gFewR_K1 : Sum (Int) (Bool) → Option ((Bool))
  | .inl i_2 => some true
  | .inr q => some q
def gFewR (a_l : (List Fct)) (a_most : Int) : Option (Bool) := bif (decide (a_most < ((a_l.length : Nat) : Int))) then
  some false
else
  (loopM (gFewR_B1 a_l) fuel (0 : Int)).bind (gFewR_K1)
theorem gFewR_ok {a_l : (List Fct)} {a_most : Int} {r : Bool} (H : gFewR a_l a_most = some r) : Pure Tryz.prog 39 [.one (.lst (a_l.map cFct)), .one (.int .i64 a_most)] (.val (.one (.bool r))) := by
  unfold gFewR at H
  refine pure_of_aw tab_ok Tryz.func39 rfl rfl Tryz.ntmps39 (by simp) ?_
  simp only [argT, PV.av, List.map_cons, List.map_nil]
  rcases Bool.eq_false_or_eq_true (decide (a_most < ((a_l.length : Nat) : Int))) with q_1 | q_1
  · rw [q_1, cond_true] at H
    obtain rfl := Option.some.inj H
    exact go_
  · rw [q_1, cond_false] at H
    repeat' (first | refine p_ rfl rfl rfl rfl rfl ?_ | refine st_nil ?_ | refine x_ rfl rfl rfl rfl rfl rfl rfl rfl ?_ | refine l_ rfl rfl rfl rfl ?_ | refine s_ rfl rfl rfl ?_ | refine t_ rfl rfl rfl rfl ?_ | refine k_ rfl rfl rfl ?_ | refine k0_ rfl rfl ?_ | refine c_ rfl rfl rfl rfl ?_ | refine pick_t rfl rfl rfl rfl rfl rfl rfl ?_ | refine pick_f rfl rfl rfl rfl rfl rfl rfl ?_ | refine aw_seq ?_ | refine aw_region tab_ok _ rfl ?_ | refine aw_drawn2 tabS_ok _ rfl mixed (by decide +kernel) ?_ | refine aw_condT rfl ?_ | refine aw_condF rfl ?_ | refine aw_block ?_ | refine aw_exit ?_ | refine aw_ret ?_ | refine aw_skip ?_ | rw [List.length_map] | rw [mn_norm] | rw [mx_norm])
    refine aw_loopM (fun s : Int => match s with | i_2 => [(0, .one (.c (.lst (a_l.map cFct)))), (4, .one (.c (.bool false))), (5, .one (.c (.int .i64 i_2)))]) (fun s => match s with | i_2 => []) H (fun _ => Nat.zero_le _)
      (fits_mk ⟨rfl, rfl, rfl, trivial⟩ [] rfl ⟨trivial, trivial, trivial, trivial⟩ trivial) ?_
    rintro i_2 st1 hb1 hk1
    unfold gFewR_B1 at hb1
    dsimp only at hb1 ⊢
    rcases Bool.eq_false_or_eq_true (decide (i_2 < ((a_l.length : Nat) : Int))) with q_3 | q_3
    · rw [q_3, cond_true] at hb1
      obtain ⟨x_4, i1, hb1⟩ := bind_some hb1
      obtain ⟨i1z, i1⟩ := getI_some i1
      have i1x := idxI (f := cFct) i1
      rcases Bool.eq_false_or_eq_true (decide ((60 : Int) < ((x_4.row.length : Nat) : Int))) with q_5 | q_5
      · rw [q_5, cond_true] at hb1
        obtain rfl := Option.some.inj hb1
        have hx1 : gFewR_K1 (.inr false) = some _ := hk1
        unfold gFewR_K1 at hx1
        dsimp only at hx1
        obtain rfl := Option.some.inj hx1
        exact go_
      · rw [q_5, cond_false] at hb1
        obtain rfl := Option.some.inj hb1
        repeat' (first | refine p_ rfl rfl rfl rfl rfl ?_ | refine st_nil ?_ | refine x_ rfl rfl rfl rfl rfl rfl rfl rfl ?_ | refine l_ rfl rfl rfl rfl ?_ | refine s_ rfl rfl rfl ?_ | refine t_ rfl rfl rfl rfl ?_ | refine k_ rfl rfl rfl ?_ | refine k0_ rfl rfl ?_ | refine c_ rfl rfl rfl rfl ?_ | refine pick_t rfl rfl rfl rfl rfl rfl rfl ?_ | refine pick_f rfl rfl rfl rfl rfl rfl rfl ?_ | refine aw_seq ?_ | refine aw_region tab_ok _ rfl ?_ | refine aw_drawn2 tabS_ok _ rfl mixed (by decide +kernel) ?_ | refine aw_condT rfl ?_ | refine aw_condF rfl ?_ | refine aw_block ?_ | refine aw_exit ?_ | refine aw_ret ?_ | refine aw_skip ?_ | rw [List.length_map] | rw [mn_norm] | rw [mx_norm])
        exact ⟨_, rfl, fits_mk ⟨rfl, rfl, rfl, trivial⟩ [] rfl ⟨trivial, trivial, trivial, trivial⟩ trivial⟩
    · rw [q_3, cond_false] at hb1
      obtain rfl := Option.some.inj hb1
      have hx1 : gFewR_K1 (.inl i_2) = some _ := hk1
      unfold gFewR_K1 at hx1
      dsimp only at hx1
      obtain rfl := Option.some.inj hx1
      exact go_
def gFew (a_l : (List Ver)) : Option (Bool) := (gFactsR a_l).bind fun r_1 => (gFewR r_1 (16 : Int)).bind fun r_2 => some r_2
theorem gFew_ok {a_l : (List Ver)} {r : Bool} (H : gFew a_l = some r) : Pure Tryz.prog 10 [.one (.lst (a_l.map cVer))] (.val (.one (.bool r))) := by
  unfold gFew at H
  refine pure_of_aw tab_ok Tryz.func10 rfl rfl Tryz.ntmps10 (by simp) ?_
  simp only [argT, PV.av, List.map_cons, List.map_nil]
  obtain ⟨r_1, c1, H⟩ := bind_some H
  replace c1 := gFactsR_ok c1
  try simp only [List.map_append, List.map_cons, List.map_nil, List.nil_append, tE_eq, tP_eq] at c1
  obtain ⟨r_2, c2, H⟩ := bind_some H
  replace c2 := gFewR_ok c2
  try simp only [List.map_append, List.map_cons, List.map_nil, List.nil_append, tE_eq, tP_eq] at c2
  obtain rfl := Option.some.inj H
  exact go_
def gSign (a_less : Bool) (a_greater : Bool) : Option (Int) := bif a_less then
  some (-1 : Int)
else
  bif a_greater then
    some (1 : Int)
  else
    some (0 : Int)
theorem gSign_ok {a_less : Bool} {a_greater : Bool} {r : Int} (H : gSign a_less a_greater = some r) : Pure Tryz.prog 95 [.one (.bool a_less), .one (.bool a_greater)] (.val (.one (.int .i64 r))) := by
  unfold gSign at H
  refine pure_of_aw tab_ok Tryz.func95 rfl rfl Tryz.ntmps95 (by simp) ?_
  simp only [argT, PV.av, List.map_cons, List.map_nil]
  rcases Bool.eq_false_or_eq_true a_less with q_1 | q_1
  · rw [q_1, cond_true] at H
    obtain rfl := Option.some.inj H
    exact go_
  · rw [q_1, cond_false] at H
    rcases Bool.eq_false_or_eq_true a_greater with q_2 | q_2
    · rw [q_2, cond_true] at H
      obtain rfl := Option.some.inj H
      exact go_
    · rw [q_2, cond_false] at H
      obtain rfl := Option.some.inj H
      exact go_
def gCmp7 (a_a : Val) (a_b : Val) : Option (Int) := bif (decide (a_a.kind ≠ a_b.kind)) then
  (gSign (decide (a_a.kind < a_b.kind)) (decide (a_b.kind < a_a.kind))).bind fun r_2 => some r_2
else
  bif (decide (a_a.int ≠ a_b.int)) then
    (gSign (decide (a_a.int < a_b.int)) (decide (a_b.int < a_a.int))).bind fun r_4 => some r_4
  else
    (gSign (Op.bytesLess a_a.text.toList a_b.text.toList) (!((Op.bytesLess a_a.text.toList a_b.text.toList) || (a_a.text.toList == a_b.text.toList)))).bind fun r_5 => some r_5
theorem gCmp7_ok {a_a : Val} {a_b : Val} {r : Int} (H : gCmp7 a_a a_b = some r) : Pure Tryz.prog 72 [.agg (cV a_a), .agg (cV a_b)] (.val (.one (.int .i64 r))) := by
  unfold gCmp7 at H
  refine pure_of_aw tab_ok Tryz.func72 rfl rfl Tryz.ntmps72 (by simp) ?_
  simp only [argT, PV.av, List.map_cons, List.map_nil]
  rcases Bool.eq_false_or_eq_true (decide (a_a.kind ≠ a_b.kind)) with q_1 | q_1
  · rw [q_1, cond_true] at H
    obtain ⟨r_2, c1, H⟩ := bind_some H
    replace c1 := gSign_ok c1
    try simp only [List.map_append, List.map_cons, List.map_nil, List.nil_append, tE_eq, tP_eq] at c1
    obtain rfl := Option.some.inj H
    exact go_
  · rw [q_1, cond_false] at H
    rcases Bool.eq_false_or_eq_true (decide (a_a.int ≠ a_b.int)) with q_3 | q_3
    · rw [q_3, cond_true] at H
      obtain ⟨r_4, c2, H⟩ := bind_some H
      replace c2 := gSign_ok c2
      try simp only [List.map_append, List.map_cons, List.map_nil, List.nil_append, tE_eq, tP_eq] at c2
      obtain rfl := Option.some.inj H
      exact go_
    · rw [q_3, cond_false] at H
      obtain ⟨r_5, c3, H⟩ := bind_some H
      replace c3 := gSign_ok c3
      try simp only [List.map_append, List.map_cons, List.map_nil, List.nil_append, tE_eq, tP_eq] at c3
      obtain rfl := Option.some.inj H
      exact go_
def gCmp8_B1 (a_a : (List Val)) (a_b : (List Val)) : (Int) → Option (Step (Int) (Int)) := fun s => match s with
  | i_1 => bif (decide (i_1 < ((a_a.length : Nat) : Int))) then
    bif (decide (i_1 < ((a_b.length : Nat) : Int))) then
      (getI a_a i_1).bind fun x_4 => (getI a_b i_1).bind fun x_5 => (gCmp7 x_4 x_5).bind fun r_6 => bif (decide (r_6 ≠ (0 : Int))) then
        some (.ret r_6)
      else
        some (.next (IntKind.i64.wrap (i_1 + (1 : Int))))
    else
      some (.exit i_1)
  else
    some (.exit i_1)
def gCmp8_K1 (a_a : (List Val)) (a_b : (List Val)) : Sum (Int) (Int) → Option ((Int))
  | .inl i_1 => bif (decide (((a_a.length : Nat) : Int) < ((a_b.length : Nat) : Int))) then
    some (-1 : Int)
  else
    bif (decide (((a_b.length : Nat) : Int) < ((a_a.length : Nat) : Int))) then
      some (1 : Int)
    else
      some (0 : Int)
  | .inr q => some q
def gCmp8 (a_a : (List Val)) (a_b : (List Val)) : Option (Int) := (loopM (gCmp8_B1 a_a a_b) fuel (0 : Int)).bind (gCmp8_K1 a_a a_b)
theorem gCmp8_ok {a_a : (List Val)} {a_b : (List Val)} {r : Int} (H : gCmp8 a_a a_b = some r) : Pure Tryz.prog 45 [.one (.lst (a_a.map cV)), .one (.lst (a_b.map cV))] (.val (.one (.int .i64 r))) := by
  unfold gCmp8 at H
  refine pure_of_aw tab_ok Tryz.func45 rfl rfl Tryz.ntmps45 (by simp) ?_
  simp only [argT, PV.av, List.map_cons, List.map_nil]
  repeat' (first | refine p_ rfl rfl rfl rfl rfl ?_ | refine st_nil ?_ | refine x_ rfl rfl rfl rfl rfl rfl rfl rfl ?_ | refine l_ rfl rfl rfl rfl ?_ | refine s_ rfl rfl rfl ?_ | refine t_ rfl rfl rfl rfl ?_ | refine k_ rfl rfl rfl ?_ | refine k0_ rfl rfl ?_ | refine c_ rfl rfl rfl rfl ?_ | refine pick_t rfl rfl rfl rfl rfl rfl rfl ?_ | refine pick_f rfl rfl rfl rfl rfl rfl rfl ?_ | refine aw_seq ?_ | refine aw_region tab_ok _ rfl ?_ | refine aw_drawn2 tabS_ok _ rfl mixed (by decide +kernel) ?_ | refine aw_condT rfl ?_ | refine aw_condF rfl ?_ | refine aw_block ?_ | refine aw_exit ?_ | refine aw_ret ?_ | refine aw_skip ?_ | rw [List.length_map] | rw [mn_norm] | rw [mx_norm])
  refine aw_loopM (fun s : Int => match s with | i_1 => [(0, .one (.c (.lst (a_a.map cV)))), (1, .one (.c (.lst (a_b.map cV)))), (4, .one (.c (.int .i64 (0 : Int)))), (5, .one (.c (.int .i64 i_1)))]) (fun s => match s with | i_1 => []) H (fun _ => Nat.zero_le _)
    (fits_mk ⟨rfl, rfl, rfl, rfl, trivial⟩ [] rfl ⟨trivial, trivial, trivial, trivial, trivial⟩ trivial) ?_
  rintro i_1 st1 hb1 hk1
  unfold gCmp8_B1 at hb1
  dsimp only at hb1 ⊢
  rcases Bool.eq_false_or_eq_true (decide (i_1 < ((a_a.length : Nat) : Int))) with q_2 | q_2
  · rw [q_2, cond_true] at hb1
    rcases Bool.eq_false_or_eq_true (decide (i_1 < ((a_b.length : Nat) : Int))) with q_3 | q_3
    · rw [q_3, cond_true] at hb1
      obtain ⟨x_4, i1, hb1⟩ := bind_some hb1
      obtain ⟨i1z, i1⟩ := getI_some i1
      have i1x := idxI (f := cV) i1
      obtain ⟨x_5, i2, hb1⟩ := bind_some hb1
      obtain ⟨i2z, i2⟩ := getI_some i2
      have i2x := idxI (f := cV) i2
      obtain ⟨r_6, c3, hb1⟩ := bind_some hb1
      replace c3 := gCmp7_ok c3
      try simp only [List.map_append, List.map_cons, List.map_nil, List.nil_append, tE_eq, tP_eq] at c3
      rcases Bool.eq_false_or_eq_true (decide (r_6 ≠ (0 : Int))) with q_7 | q_7
      · rw [q_7, cond_true] at hb1
        obtain rfl := Option.some.inj hb1
        have hx1 : gCmp8_K1 a_a a_b (.inr r_6) = some _ := hk1
        unfold gCmp8_K1 at hx1
        dsimp only at hx1
        obtain rfl := Option.some.inj hx1
        exact go_
      · rw [q_7, cond_false] at hb1
        obtain rfl := Option.some.inj hb1
        repeat' (first | refine p_ rfl rfl rfl rfl rfl ?_ | refine st_nil ?_ | refine x_ rfl rfl rfl rfl rfl rfl rfl rfl ?_ | refine l_ rfl rfl rfl rfl ?_ | refine s_ rfl rfl rfl ?_ | refine t_ rfl rfl rfl rfl ?_ | refine k_ rfl rfl rfl ?_ | refine k0_ rfl rfl ?_ | refine c_ rfl rfl rfl rfl ?_ | refine pick_t rfl rfl rfl rfl rfl rfl rfl ?_ | refine pick_f rfl rfl rfl rfl rfl rfl rfl ?_ | refine aw_seq ?_ | refine aw_region tab_ok _ rfl ?_ | refine aw_drawn2 tabS_ok _ rfl mixed (by decide +kernel) ?_ | refine aw_condT rfl ?_ | refine aw_condF rfl ?_ | refine aw_block ?_ | refine aw_exit ?_ | refine aw_ret ?_ | refine aw_skip ?_ | rw [List.length_map] | rw [mn_norm] | rw [mx_norm])
        exact ⟨_, rfl, fits_mk ⟨rfl, rfl, rfl, rfl, trivial⟩ [] rfl ⟨trivial, trivial, trivial, trivial, trivial⟩ trivial⟩
    · rw [q_3, cond_false] at hb1
      obtain rfl := Option.some.inj hb1
      have hx1 : gCmp8_K1 a_a a_b (.inl i_1) = some _ := hk1
      unfold gCmp8_K1 at hx1
      dsimp only at hx1
      rcases Bool.eq_false_or_eq_true (decide (((a_a.length : Nat) : Int) < ((a_b.length : Nat) : Int))) with q_8 | q_8
      · rw [q_8, cond_true] at hx1
        obtain rfl := Option.some.inj hx1
        exact go_
      · rw [q_8, cond_false] at hx1
        rcases Bool.eq_false_or_eq_true (decide (((a_b.length : Nat) : Int) < ((a_a.length : Nat) : Int))) with q_9 | q_9
        · rw [q_9, cond_true] at hx1
          obtain rfl := Option.some.inj hx1
          exact go_
        · rw [q_9, cond_false] at hx1
          obtain rfl := Option.some.inj hx1
          exact go_
  · rw [q_2, cond_false] at hb1
    obtain rfl := Option.some.inj hb1
    have hx1 : gCmp8_K1 a_a a_b (.inl i_1) = some _ := hk1
    unfold gCmp8_K1 at hx1
    dsimp only at hx1
    rcases Bool.eq_false_or_eq_true (decide (((a_a.length : Nat) : Int) < ((a_b.length : Nat) : Int))) with q_8 | q_8
    · rw [q_8, cond_true] at hx1
      obtain rfl := Option.some.inj hx1
      exact go_
    · rw [q_8, cond_false] at hx1
      rcases Bool.eq_false_or_eq_true (decide (((a_b.length : Nat) : Int) < ((a_a.length : Nat) : Int))) with q_9 | q_9
      · rw [q_9, cond_true] at hx1
        obtain rfl := Option.some.inj hx1
        exact go_
      · rw [q_9, cond_false] at hx1
        obtain rfl := Option.some.inj hx1
        exact go_
def gSameV (a_a : Ver) (a_b : Ver) : Option (Bool) := bif (decide (a_a.id = a_b.id)) then
  bif (decide (a_a.schema = a_b.schema)) then
    bif (sameS [.c (.int .i64 a_a.valid.lo), .c (.int .i64 a_a.valid.hi)] [.c (.int .i64 a_b.valid.lo), .c (.int .i64 a_b.valid.hi)]) then
      bif (sameS [.c (.int .i64 a_a.system.lo), .c (.int .i64 a_a.system.hi)] [.c (.int .i64 a_b.system.lo), .c (.int .i64 a_b.system.hi)]) then
        bif (decide (a_a.by_ = a_b.by_)) then
          bif (decide (a_a.til = a_b.til)) then
            (gCmp8 a_a.row a_b.row).bind fun r_7 => some (decide (r_7 = (0 : Int)))
          else
            some false
        else
          some false
      else
        some false
    else
      some false
  else
    some false
else
  some false
theorem gSameV_ok {a_a : Ver} {a_b : Ver} {r : Bool} (H : gSameV a_a a_b = some r) : Pure Tryz.prog 30 [.agg (cVer a_a), .agg (cVer a_b)] (.val (.one (.bool r))) := by
  unfold gSameV at H
  refine pure_of_aw tab_ok Tryz.func30 rfl rfl Tryz.ntmps30 (by simp) ?_
  simp only [argT, PV.av, List.map_cons, List.map_nil]
  rcases Bool.eq_false_or_eq_true (decide (a_a.id = a_b.id)) with q_1 | q_1
  · rw [q_1, cond_true] at H
    rcases Bool.eq_false_or_eq_true (decide (a_a.schema = a_b.schema)) with q_2 | q_2
    · rw [q_2, cond_true] at H
      rcases Bool.eq_false_or_eq_true (sameS [.c (.int .i64 a_a.valid.lo), .c (.int .i64 a_a.valid.hi)] [.c (.int .i64 a_b.valid.lo), .c (.int .i64 a_b.valid.hi)]) with q_3 | q_3
      · rw [q_3, cond_true] at H
        rcases Bool.eq_false_or_eq_true (sameS [.c (.int .i64 a_a.system.lo), .c (.int .i64 a_a.system.hi)] [.c (.int .i64 a_b.system.lo), .c (.int .i64 a_b.system.hi)]) with q_4 | q_4
        · rw [q_4, cond_true] at H
          rcases Bool.eq_false_or_eq_true (decide (a_a.by_ = a_b.by_)) with q_5 | q_5
          · rw [q_5, cond_true] at H
            rcases Bool.eq_false_or_eq_true (decide (a_a.til = a_b.til)) with q_6 | q_6
            · rw [q_6, cond_true] at H
              obtain ⟨r_7, c1, H⟩ := bind_some H
              replace c1 := gCmp8_ok c1
              try simp only [List.map_append, List.map_cons, List.map_nil, List.nil_append, tE_eq, tP_eq] at c1
              obtain rfl := Option.some.inj H
              exact go_
            · rw [q_6, cond_false] at H
              obtain rfl := Option.some.inj H
              exact go_
          · rw [q_5, cond_false] at H
            obtain rfl := Option.some.inj H
            exact go_
        · rw [q_4, cond_false] at H
          obtain rfl := Option.some.inj H
          exact go_
      · rw [q_3, cond_false] at H
        obtain rfl := Option.some.inj H
        exact go_
    · rw [q_2, cond_false] at H
      obtain rfl := Option.some.inj H
      exact go_
  · rw [q_1, cond_false] at H
    obtain rfl := Option.some.inj H
    exact go_
def gSameVs_B1 (a_a : (List Ver)) (a_b : (List Ver)) : (Int) → Option (Step (Int) (Bool)) := fun s => match s with
  | i_2 => bif (decide (i_2 < ((a_a.length : Nat) : Int))) then
    (getI a_a i_2).bind fun x_4 => (getI a_b i_2).bind fun x_5 => (gSameV x_4 x_5).bind fun r_6 => bif (!r_6) then
      some (.ret false)
    else
      some (.next (IntKind.i64.wrap (i_2 + (1 : Int))))
  else
    some (.exit i_2)
def gSameVs_K1 : Sum (Int) (Bool) → Option ((Bool))
  | .inl i_2 => some true
  | .inr q => some q
def gSameVs (a_a : (List Ver)) (a_b : (List Ver)) : Option (Bool) := bif (decide (((a_a.length : Nat) : Int) ≠ ((a_b.length : Nat) : Int))) then
  some false
else
  (loopM (gSameVs_B1 a_a a_b) fuel (0 : Int)).bind (gSameVs_K1)
theorem gSameVs_ok {a_a : (List Ver)} {a_b : (List Ver)} {r : Bool} (H : gSameVs a_a a_b = some r) : Pure Tryz.prog 12 [.one (.lst (a_a.map cVer)), .one (.lst (a_b.map cVer))] (.val (.one (.bool r))) := by
  unfold gSameVs at H
  refine pure_of_aw tab_ok Tryz.func12 rfl rfl Tryz.ntmps12 (by simp) ?_
  simp only [argT, PV.av, List.map_cons, List.map_nil]
  rcases Bool.eq_false_or_eq_true (decide (((a_a.length : Nat) : Int) ≠ ((a_b.length : Nat) : Int))) with q_1 | q_1
  · rw [q_1, cond_true] at H
    obtain rfl := Option.some.inj H
    exact go_
  · rw [q_1, cond_false] at H
    repeat' (first | refine p_ rfl rfl rfl rfl rfl ?_ | refine st_nil ?_ | refine x_ rfl rfl rfl rfl rfl rfl rfl rfl ?_ | refine l_ rfl rfl rfl rfl ?_ | refine s_ rfl rfl rfl ?_ | refine t_ rfl rfl rfl rfl ?_ | refine k_ rfl rfl rfl ?_ | refine k0_ rfl rfl ?_ | refine c_ rfl rfl rfl rfl ?_ | refine pick_t rfl rfl rfl rfl rfl rfl rfl ?_ | refine pick_f rfl rfl rfl rfl rfl rfl rfl ?_ | refine aw_seq ?_ | refine aw_region tab_ok _ rfl ?_ | refine aw_drawn2 tabS_ok _ rfl mixed (by decide +kernel) ?_ | refine aw_condT rfl ?_ | refine aw_condF rfl ?_ | refine aw_block ?_ | refine aw_exit ?_ | refine aw_ret ?_ | refine aw_skip ?_ | rw [List.length_map] | rw [mn_norm] | rw [mx_norm])
    refine aw_loopM (fun s : Int => match s with | i_2 => [(0, .one (.c (.lst (a_a.map cVer)))), (1, .one (.c (.lst (a_b.map cVer)))), (4, .one (.c (.bool false))), (5, .one (.c (.int .i64 i_2)))]) (fun s => match s with | i_2 => []) H (fun _ => Nat.zero_le _)
      (fits_mk ⟨rfl, rfl, rfl, rfl, trivial⟩ [] rfl ⟨trivial, trivial, trivial, trivial, trivial⟩ trivial) ?_
    rintro i_2 st1 hb1 hk1
    unfold gSameVs_B1 at hb1
    dsimp only at hb1 ⊢
    rcases Bool.eq_false_or_eq_true (decide (i_2 < ((a_a.length : Nat) : Int))) with q_3 | q_3
    · rw [q_3, cond_true] at hb1
      obtain ⟨x_4, i1, hb1⟩ := bind_some hb1
      obtain ⟨i1z, i1⟩ := getI_some i1
      have i1x := idxI (f := cVer) i1
      obtain ⟨x_5, i2, hb1⟩ := bind_some hb1
      obtain ⟨i2z, i2⟩ := getI_some i2
      have i2x := idxI (f := cVer) i2
      obtain ⟨r_6, c3, hb1⟩ := bind_some hb1
      replace c3 := gSameV_ok c3
      try simp only [List.map_append, List.map_cons, List.map_nil, List.nil_append, tE_eq, tP_eq] at c3
      rcases Bool.eq_false_or_eq_true (!r_6) with q_7 | q_7
      · rw [q_7, cond_true] at hb1
        obtain rfl := Option.some.inj hb1
        have hx1 : gSameVs_K1 (.inr false) = some _ := hk1
        unfold gSameVs_K1 at hx1
        dsimp only at hx1
        obtain rfl := Option.some.inj hx1
        exact go_
      · rw [q_7, cond_false] at hb1
        obtain rfl := Option.some.inj hb1
        repeat' (first | refine p_ rfl rfl rfl rfl rfl ?_ | refine st_nil ?_ | refine x_ rfl rfl rfl rfl rfl rfl rfl rfl ?_ | refine l_ rfl rfl rfl rfl ?_ | refine s_ rfl rfl rfl ?_ | refine t_ rfl rfl rfl rfl ?_ | refine k_ rfl rfl rfl ?_ | refine k0_ rfl rfl ?_ | refine c_ rfl rfl rfl rfl ?_ | refine pick_t rfl rfl rfl rfl rfl rfl rfl ?_ | refine pick_f rfl rfl rfl rfl rfl rfl rfl ?_ | refine aw_seq ?_ | refine aw_region tab_ok _ rfl ?_ | refine aw_drawn2 tabS_ok _ rfl mixed (by decide +kernel) ?_ | refine aw_condT rfl ?_ | refine aw_condF rfl ?_ | refine aw_block ?_ | refine aw_exit ?_ | refine aw_ret ?_ | refine aw_skip ?_ | rw [List.length_map] | rw [mn_norm] | rw [mx_norm])
        exact ⟨_, rfl, fits_mk ⟨rfl, rfl, rfl, rfl, trivial⟩ [] rfl ⟨trivial, trivial, trivial, trivial, trivial⟩ trivial⟩
    · rw [q_3, cond_false] at hb1
      obtain rfl := Option.some.inj hb1
      have hx1 : gSameVs_K1 (.inl i_2) = some _ := hk1
      unfold gSameVs_K1 at hx1
      dsimp only at hx1
      obtain rfl := Option.some.inj hx1
      exact go_
end Go.Proofs.YtnbnpnmkgemdeaaGreatDoor

namespace Go.Proofs.YtnbnpnmkgemdeaaGreatDoor
open Go.RowKit Go.MapKept
set_option maxRecDepth 100000
set_option linter.unusedVariables false
set_option linter.unusedSimpArgs false
def validF (p : Per) : Bool := decide (0 ≤ p.lo) && (decide (p.lo < p.hi) && decide (p.hi ≤ 1099511627776))
theorem gPV_eq (p : Per) : gPV p = some (validF p) := by
  unfold gPV validF
  cases decide (0 ≤ p.lo) <;> cases decide (p.lo < p.hi) <;> rfl
def inF (p : Per) (t : Int) : Bool := validF p && (decide (p.lo ≤ t) && decide (t < p.hi))
theorem gPC_eq (p : Per) (t : Int) : gPC p t = some (inF p t) := by
  unfold gPC inF
  rw [gPV_eq]
  simp only [Option.bind_some]
  cases validF p <;> cases decide (p.lo ≤ t) <;> rfl
def holdF (c : Cla) (p : Per) : Bool := if c.kind = 0 then decide (p.hi = 1099511627776) else if c.kind = 1 then inF p c.lo else if c.kind = 2 then decide (c.lo < c.hi) && (decide (p.lo < c.hi) && decide (c.lo < p.hi)) else if c.kind = 3 then decide (c.lo ≤ c.hi) && (decide (p.lo ≤ c.hi) && decide (c.lo < p.hi)) else decide (c.kind = 4)
theorem gOf2_eq (p : Per) (c : Cla) : gOf2 p c = some (inF p c.lo) := by
  unfold gOf2; rw [gPC_eq]; rfl
theorem gOf3_eq (p : Per) (c : Cla) : gOf3 p c = some (decide (c.lo < c.hi) && (decide (p.lo < c.hi) && decide (c.lo < p.hi))) := by
  unfold gOf3
  cases decide (c.lo < c.hi) <;> cases decide (p.lo < c.hi) <;> rfl
theorem gOf4_eq (p : Per) (c : Cla) : gOf4 p c = some (decide (c.lo ≤ c.hi) && (decide (p.lo ≤ c.hi) && decide (c.lo < p.hi))) := by
  unfold gOf4
  cases decide (c.lo ≤ c.hi) <;> cases decide (p.lo ≤ c.hi) <;> rfl
def selF (c : Cla) (v : Ver) : Bool := validF v.system && holdF c v.system
def selS (h : Per → Bool) (s : List Ver) (x : Ver) : Option (Sum (List Ver) (List Ver)) :=
  bif validF x.system then bif h x.system then bif decide (x.row.length ≤ 4398046511104) then bif decide (s.length + 1 ≤ 1599289640401) then some (.inl (s ++ [x])) else none else none else some (.inl s) else some (.inl s)
theorem fold_sel (h : Per → Bool) : ∀ (l s : List Ver), (∀ v ∈ l, v.row.length ≤ 1000000) → s.length + l.length ≤ 1000000 → foldS (selS h) s l = some (.inl (s ++ l.filter fun v => validF v.system && h v.system))
  | [], s, _, _ => by simp [foldS]
  | x :: l, s, hr, hl => by
    have hx := hr x (List.mem_cons_self ..)
    have hl' : s.length + (l.length + 1) ≤ 1000000 := by simpa using hl
    have h1 : decide (x.row.length ≤ 4398046511104) = true := decide_eq_true (by omega)
    have h2 : decide (s.length + 1 ≤ 1599289640401) = true := decide_eq_true (by omega)
    rw [foldS]
    unfold selS
    rw [h1, h2]
    have ih0 := fold_sel h l s (fun v hv => hr v (List.mem_cons_of_mem _ hv)) (by omega)
    have ih1 := fold_sel h l (s ++ [x]) (fun v hv => hr v (List.mem_cons_of_mem _ hv)) (by simp; omega)
    rw [List.filter_cons]
    cases ha : validF x.system <;> cases hb : h x.system <;> simp only [cond_true, cond_false, Bool.true_and, Bool.false_and, if_true, Bool.false_eq_true, if_false]
    · exact ih0
    · exact ih0
    · exact ih0
    · rw [show (fun s x => bif validF x.system then bif h x.system then bif decide (x.row.length ≤ 4398046511104) then bif decide (s.length + 1 ≤ 1599289640401) then some (.inl (s ++ [x])) else none else none else some (.inl s) else some (.inl s)) = selS h from rfl] at *
      rw [ih1]; simp
theorem gSelect_eq {sel : Per → Option Bool} {h : Per → Bool} (hs : ∀ p, sel p = some (h p)) (l : List Ver) (c : Cla) (hr : ∀ v ∈ l, v.row.length ≤ 1000000) (hl : l.length ≤ 1000000) : gSelect sel l c = some (l.filter fun v => validF v.system && h v.system) := by
  unfold gSelect
  rw [loop_list (l := l) (mk := fun out i => (out, i)) (f := selS h) ?_ ?_ (by unfold fuel; omega) []]
  · rw [fold_sel h l [] hr (by simpa using hl)]; rfl
  · intro s i x hx
    have hi : i < l.length := (List.getElem?_eq_some_iff.1 hx).1
    unfold gSelect_B1 selS
    dsimp only
    rw [lt_dec hx, cond_true, getI_nat hx]
    simp only [Option.bind_some, gPV_eq, hs]
    rw [wrapN (by omega)]
    cases validF x.system <;> cases h x.system <;> cases decide (x.row.length ≤ 4398046511104) <;> cases decide (s.length + 1 ≤ 1599289640401) <;> rfl
  · intro s
    unfold gSelect_B1
    dsimp only
    rw [lt_decF, cond_false]
theorem select_pure (l : List Ver) (c : Cla) (hr : ∀ v ∈ l, v.row.length ≤ 1000000) (hl : l.length ≤ 1000000) : Pure Tryz.prog 13 [.one (.lst (l.map cVer)), .agg (cCla c)] (.val (.one (.lst ((l.filter (selF c)).map cVer)))) := by
  by_cases h0 : c.kind = 0
  · exact gSelect_ok (caps_sel := []) (fun y r h => gOf1_ok h) (gOf_ok (by simp [gOf, h0])) ((gSelect_eq (h := holdF c) (fun p => by simp [gOf1, holdF, h0]) l c hr hl))
  by_cases h1 : c.kind = 1
  · exact gSelect_ok (caps_sel := [.ref [.int .i64 c.kind, .int .i64 c.lo, .int .i64 c.hi]]) (fun y r h => gOf2_ok h) (gOf_ok (by simp [gOf, h1])) ((gSelect_eq (h := holdF c) (fun p => by simp [gOf2_eq, holdF, h1]) l c hr hl))
  by_cases h2 : c.kind = 2
  · exact gSelect_ok (caps_sel := [.ref [.int .i64 c.kind, .int .i64 c.lo, .int .i64 c.hi]]) (fun y r h => gOf3_ok h) (gOf_ok (by simp [gOf, h2])) ((gSelect_eq (h := holdF c) (fun p => by simp [gOf3_eq, holdF, h2]) l c hr hl))
  by_cases h3 : c.kind = 3
  · exact gSelect_ok (caps_sel := [.ref [.int .i64 c.kind, .int .i64 c.lo, .int .i64 c.hi]]) (fun y r h => gOf4_ok h) (gOf_ok (by simp [gOf, h3])) ((gSelect_eq (h := holdF c) (fun p => by simp [gOf4_eq, holdF, h3]) l c hr hl))
  by_cases h4 : c.kind = 4
  · exact gSelect_ok (caps_sel := []) (fun y r h => gOf5_ok h) (gOf_ok (by simp [gOf, h4])) ((gSelect_eq (h := holdF c) (fun p => by simp [gOf5, holdF, h4]) l c hr hl))
  · exact gSelect_ok (caps_sel := []) (fun y r h => gOf6_ok h) (gOf_ok (by simp [gOf, h0, h1, h2, h3, h4])) ((gSelect_eq (h := holdF c) (fun p => by simp [gOf6, holdF, h0, h1, h2, h3, h4]) l c hr hl))
def gSel (l : List Ver) (c : Cla) : Option (List Ver) := bif decide (l.length ≤ 1000000) && l.all (fun v => decide (v.row.length ≤ 1000000)) then some (l.filter (selF c)) else none
theorem gSel_ok {l : List Ver} {c : Cla} {r : List Ver} (h : gSel l c = some r) : Pure Tryz.prog 13 [.one (.lst (l.map cVer)), .agg (cCla c)] (.val (.one (.lst (r.map cVer)))) := by
  obtain ⟨h1, h2⟩ := grd_some h
  obtain rfl := Option.some.inj h2
  rw [Bool.and_eq_true, List.all_eq_true] at h1
  exact select_pure l c (fun v hv => of_decide_eq_true (h1.2 v hv)) (of_decide_eq_true h1.1)
theorem gSel_eq {l : List Ver} (c : Cla) (hr : ∀ v ∈ l, v.row.length ≤ 1000000) (hl : l.length ≤ 1000000) : gSel l c = some (l.filter (selF c)) := by
  unfold gSel
  rw [show (decide (l.length ≤ 1000000) && l.all (fun v => decide (v.row.length ≤ 1000000))) = true by rw [Bool.and_eq_true, List.all_eq_true]; exact ⟨decide_eq_true hl, fun v hv => decide_eq_true (hr v hv)⟩]
  rfl
/-! ### the same -/
theorem less_irr : ∀ l : List UInt8, Op.bytesLess l l = false
  | [] => rfl
  | x :: l => by
    unfold Op.bytesLess
    simp [less_irr l]
theorem gCmp7_refl (v : Val) : gCmp7 v v = some 0 := by
  unfold gCmp7 gSign
  simp [less_irr]
theorem gCmp8_refl (l : List Val) (hl : l.length ≤ 1000000) : gCmp8 l l = some 0 := by
  unfold gCmp8
  rw [loop_list (l := l) (mk := fun (_ : Unit) i => i) (f := fun (_ : Unit) (_ : Val) => (some (.inl ()) : Option (Sum Unit Int))) ?_ ?_ (by unfold fuel; omega) ()]
  · have : ∀ l : List Val, foldS (fun (_ : Unit) (_ : Val) => (some (.inl ()) : Option (Sum Unit Int))) () l = some (.inl ()) := by
      intro l
      induction l with
      | nil => rfl
      | cons x l ih => rw [foldS]; exact ih
    rw [this]
    show gCmp8_K1 l l (.inl ((l.length : Nat) : Int)) = _
    unfold gCmp8_K1
    simp
  · intro s i x hx
    have hi : i < l.length := (List.getElem?_eq_some_iff.1 hx).1
    unfold gCmp8_B1
    dsimp only
    rw [lt_dec hx, cond_true, cond_true, getI_nat hx]
    simp only [Option.bind_some, gCmp7_refl]
    rw [wrapN (by omega)]
    rfl
  · intro s
    unfold gCmp8_B1
    dsimp only
    rw [lt_decF, cond_false]
theorem gSameV_refl (v : Ver) (h : v.row.length ≤ 1000000) : gSameV v v = some true := by
  unfold gSameV
  rw [gCmp8_refl _ h]
  simp [sameS]
theorem gSameVs_refl (l : List Ver) (hr : ∀ v ∈ l, v.row.length ≤ 1000000) (hl : l.length ≤ 1000000) : gSameVs l l = some true := by
  unfold gSameVs
  simp only [ne_eq, not_true_eq_false, decide_false, cond_false]
  rw [loop_list (l := l) (mk := fun (_ : Unit) i => i) (f := fun (_ : Unit) (v : Ver) => (gSameV v v).map fun _ => (.inl () : Sum Unit Bool)) ?_ ?_ (by unfold fuel; omega) ()]
  · have : ∀ l : List Ver, (∀ v ∈ l, v.row.length ≤ 1000000) → foldS (fun (_ : Unit) (v : Ver) => (gSameV v v).map fun _ => (.inl () : Sum Unit Bool)) () l = some (.inl ()) := by
      intro l
      induction l with
      | nil => intro _; rfl
      | cons x l ih => intro h; rw [foldS, gSameV_refl x (h x (List.mem_cons_self ..))]; exact ih fun v hv => h v (List.mem_cons_of_mem _ hv)
    rw [this l hr]; rfl
  · intro s i x hx
    have hi : i < l.length := (List.getElem?_eq_some_iff.1 hx).1
    unfold gSameVs_B1
    dsimp only
    rw [lt_dec hx, cond_true, getI_nat hx]
    simp only [Option.bind_some, gSameV_refl x (hr x (List.mem_of_getElem? hx))]
    rw [wrapN (by omega)]
    rfl
  · intro s
    unfold gSameVs_B1
    dsimp only
    rw [lt_decF, cond_false]
end Go.Proofs.YtnbnpnmkgemdeaaGreatDoor
