/- Parts of the proof, joined. No condition. -/
import Derived.Test.YtnbnpnmkgemdeaaGreatDoorKAL
import Derived.Test.YtnbnpnmkgemdeaaGreatDoorKAI
import Derived.Test.YtnbnpnmkgemdeaaGreatDoorKAM
set_option linter.unusedSimpArgs false
set_option linter.unusedVariables false
namespace Go.Proofs.YtnbnpnmkgemdeaaGreatDoor
open Go.RowKit Go.MapKept
set_option maxRecDepth 100000
set_option maxHeartbeats 8000000
set_option linter.unusedVariables false
set_option linter.unusedSimpArgs false
def gPV (a_p : Per) : Option (Bool) := bif (decide ((0 : Int) ≤ a_p.lo)) then
  bif (decide (a_p.lo < a_p.hi)) then
    some (decide (a_p.hi ≤ (1099511627776 : Int)))
  else
    some false
 else
  some false
theorem gPV_ok {a_p : Per} {r : Bool} (H : gPV a_p = some r) : Pure Tryz.prog 43 [.agg (cPer a_p)] (.val (.one (.bool r))) := by
  unfold gPV at H
  refine pure_of_aw tab_ok Tryz.func43 rfl rfl Tryz.ntmps43 (by simp) ?_
  simp only [argT, PV.av, List.map_cons, List.map_nil]
  rcases Bool.eq_false_or_eq_true (decide ((0 : Int) ≤ a_p.lo)) with q_1 | q_1
  · rw [q_1, cond_true] at H
    rcases Bool.eq_false_or_eq_true (decide (a_p.lo < a_p.hi)) with q_2 | q_2
    · rw [q_2, cond_true] at H
      obtain rfl := Option.some.inj H
      exact go_
    · rw [q_2, cond_false] at H
      obtain rfl := Option.some.inj H
      exact go_
  · rw [q_1, cond_false] at H
    obtain rfl := Option.some.inj H
    exact go_
def gPC (a_p : Per) (a_t : Int) : Option (Bool) := (gPV a_p).bind fun r_1 => bif r_1 then
  bif (decide (a_p.lo ≤ a_t)) then
    some (decide (a_t < a_p.hi))
  else
    some false
 else
  some false
theorem gPC_ok {a_p : Per} {a_t : Int} {r : Bool} (H : gPC a_p a_t = some r) : Pure Tryz.prog 67 [.agg (cPer a_p), .one (.int .i64 a_t)] (.val (.one (.bool r))) := by
  unfold gPC at H
  refine pure_of_aw tab_ok Tryz.func67 rfl rfl Tryz.ntmps67 (by simp) ?_
  simp only [argT, PV.av, List.map_cons, List.map_nil]
  obtain ⟨r_1, c1, H⟩ := bind_some H
  replace c1 := gPV_ok c1
  try simp only [List.map_append, List.map_cons, List.map_nil, List.nil_append, tE_eq, tP_eq] at c1
  rcases Bool.eq_false_or_eq_true r_1 with q_2 | q_2
  · rw [q_2, cond_true] at H
    rcases Bool.eq_false_or_eq_true (decide (a_p.lo ≤ a_t)) with q_3 | q_3
    · rw [q_3, cond_true] at H
      obtain rfl := Option.some.inj H
      exact go_
    · rw [q_3, cond_false] at H
      obtain rfl := Option.some.inj H
      exact go_
  · rw [q_2, cond_false] at H
    obtain rfl := Option.some.inj H
    exact go_
def gOf1 (a_p : Per) : Option (Bool) := some (decide (a_p.hi = (1099511627776 : Int)))
theorem gOf1_ok {a_p : Per} {r : Bool} (H : gOf1 a_p = some r) : Pure Tryz.prog 65 [.agg (cPer a_p)] (.val (.one (.bool r))) := by
  unfold gOf1 at H
  refine pure_of_aw tab_ok Tryz.func65 rfl rfl Tryz.ntmps65 (by simp) ?_
  simp only [argT, PV.av, List.map_cons, List.map_nil]
  obtain rfl := Option.some.inj H
  exact go_
def gOf2 (a_p : Per) (v_0 : Cla) : Option (Bool) := (gPC a_p v_0.lo).bind fun r_1 => some r_1
theorem gOf2_ok {a_p : Per} {v_0 : Cla} {r : Bool} (H : gOf2 a_p v_0 = some r) : Pure Tryz.prog 66 [.agg (cPer a_p), .one (.ref [.int .i64 v_0.kind, .int .i64 v_0.lo, .int .i64 v_0.hi])] (.val (.one (.bool r))) := by
  unfold gOf2 at H
  refine pure_of_aw tab_ok Tryz.func66 rfl rfl Tryz.ntmps66 (by simp) ?_
  simp only [argT, PV.av, List.map_cons, List.map_nil]
  obtain ⟨r_1, c1, H⟩ := bind_some H
  replace c1 := gPC_ok c1
  try simp only [List.map_append, List.map_cons, List.map_nil, List.nil_append, tE_eq, tP_eq] at c1
  obtain rfl := Option.some.inj H
  exact go_
def gOf3 (a_p : Per) (v_0 : Cla) : Option (Bool) := bif (decide (v_0.lo < v_0.hi)) then
  bif (decide (a_p.lo < v_0.hi)) then
    some (decide (v_0.lo < a_p.hi))
  else
    some false
 else
  some false
theorem gOf3_ok {a_p : Per} {v_0 : Cla} {r : Bool} (H : gOf3 a_p v_0 = some r) : Pure Tryz.prog 68 [.agg (cPer a_p), .one (.ref [.int .i64 v_0.kind, .int .i64 v_0.lo, .int .i64 v_0.hi])] (.val (.one (.bool r))) := by
  unfold gOf3 at H
  refine pure_of_aw tab_ok Tryz.func68 rfl rfl Tryz.ntmps68 (by simp) ?_
  simp only [argT, PV.av, List.map_cons, List.map_nil]
  rcases Bool.eq_false_or_eq_true (decide (v_0.lo < v_0.hi)) with q_1 | q_1
  · rw [q_1, cond_true] at H
    rcases Bool.eq_false_or_eq_true (decide (a_p.lo < v_0.hi)) with q_2 | q_2
    · rw [q_2, cond_true] at H
      obtain rfl := Option.some.inj H
      exact go_
    · rw [q_2, cond_false] at H
      obtain rfl := Option.some.inj H
      exact go_
  · rw [q_1, cond_false] at H
    obtain rfl := Option.some.inj H
    exact go_
def gOf4 (a_p : Per) (v_0 : Cla) : Option (Bool) := bif (decide (v_0.lo ≤ v_0.hi)) then
  bif (decide (a_p.lo ≤ v_0.hi)) then
    some (decide (v_0.lo < a_p.hi))
  else
    some false
 else
  some false
theorem gOf4_ok {a_p : Per} {v_0 : Cla} {r : Bool} (H : gOf4 a_p v_0 = some r) : Pure Tryz.prog 69 [.agg (cPer a_p), .one (.ref [.int .i64 v_0.kind, .int .i64 v_0.lo, .int .i64 v_0.hi])] (.val (.one (.bool r))) := by
  unfold gOf4 at H
  refine pure_of_aw tab_ok Tryz.func69 rfl rfl Tryz.ntmps69 (by simp) ?_
  simp only [argT, PV.av, List.map_cons, List.map_nil]
  rcases Bool.eq_false_or_eq_true (decide (v_0.lo ≤ v_0.hi)) with q_1 | q_1
  · rw [q_1, cond_true] at H
    rcases Bool.eq_false_or_eq_true (decide (a_p.lo ≤ v_0.hi)) with q_2 | q_2
    · rw [q_2, cond_true] at H
      obtain rfl := Option.some.inj H
      exact go_
    · rw [q_2, cond_false] at H
      obtain rfl := Option.some.inj H
      exact go_
  · rw [q_1, cond_false] at H
    obtain rfl := Option.some.inj H
    exact go_
def gOf5 (a_p : Per) : Option (Bool) := some true
theorem gOf5_ok {a_p : Per} {r : Bool} (H : gOf5 a_p = some r) : Pure Tryz.prog 70 [.agg (cPer a_p)] (.val (.one (.bool r))) := by
  unfold gOf5 at H
  refine pure_of_aw tab_ok Tryz.func70 rfl rfl Tryz.ntmps70 (by simp) ?_
  simp only [argT, PV.av, List.map_cons, List.map_nil]
  obtain rfl := Option.some.inj H
  exact go_
def gOf6 (a_p : Per) : Option (Bool) := some false
theorem gOf6_ok {a_p : Per} {r : Bool} (H : gOf6 a_p = some r) : Pure Tryz.prog 71 [.agg (cPer a_p)] (.val (.one (.bool r))) := by
  unfold gOf6 at H
  refine pure_of_aw tab_ok Tryz.func71 rfl rfl Tryz.ntmps71 (by simp) ?_
  simp only [argT, PV.av, List.map_cons, List.map_nil]
  obtain rfl := Option.some.inj H
  exact go_
def gOf (a_c : Cla) : Option (AC) := bif (decide (a_c.kind = (0 : Int))) then
  some (.fn 65 [] : AC)
 else
  bif (decide (a_c.kind = (1 : Int))) then
    some (.fn 66 [.ref [.int .i64 a_c.kind, .int .i64 a_c.lo, .int .i64 a_c.hi]] : AC)
  else
    bif (decide (a_c.kind = (2 : Int))) then
      some (.fn 68 [.ref [.int .i64 a_c.kind, .int .i64 a_c.lo, .int .i64 a_c.hi]] : AC)
    else
      bif (decide (a_c.kind = (3 : Int))) then
        some (.fn 69 [.ref [.int .i64 a_c.kind, .int .i64 a_c.lo, .int .i64 a_c.hi]] : AC)
      else
        bif (decide (a_c.kind = (4 : Int))) then
          some (.fn 70 [] : AC)
        else
          some (.fn 71 [] : AC)
theorem gOf_ok {a_c : Cla} {r : AC} (H : gOf a_c = some r) : Pure Tryz.prog 42 [.agg (cCla a_c)] (.val (.agg [r])) := by
  unfold gOf at H
  refine pure_of_aw tab_ok Tryz.func42 rfl rfl Tryz.ntmps42 (by simp) ?_
  simp only [argT, PV.av, List.map_cons, List.map_nil]
  rcases Bool.eq_false_or_eq_true (decide (a_c.kind = (0 : Int))) with q_1 | q_1
  · rw [q_1, cond_true] at H
    obtain rfl := Option.some.inj H
    exact go_
  · rw [q_1, cond_false] at H
    rcases Bool.eq_false_or_eq_true (decide (a_c.kind = (1 : Int))) with q_2 | q_2
    · rw [q_2, cond_true] at H
      repeat' (first | refine p_ rfl rfl rfl rfl rfl ?_ | refine st_nil ?_ | refine x_ rfl rfl rfl rfl rfl rfl rfl rfl ?_ | refine l_ rfl rfl rfl rfl ?_ | refine s_ rfl rfl rfl ?_ | refine t_ rfl rfl rfl rfl ?_ | refine k_ rfl rfl rfl ?_ | refine k0_ rfl rfl ?_ | refine c_ rfl rfl rfl rfl ?_ | refine pick_t rfl rfl rfl rfl rfl rfl rfl ?_ | refine pick_f rfl rfl rfl rfl rfl rfl rfl ?_ | refine aw_seq ?_ | refine aw_condT rfl ?_ | refine aw_condF rfl ?_ | refine aw_block ?_ | refine aw_exit ?_ | refine aw_ret ?_ | refine aw_skip ?_ | rw [List.length_map] | rw [mn_norm] | rw [mx_norm])
      refine aw_region tab_ok _ rfl ?_
      repeat' (first | refine p_ rfl rfl rfl rfl rfl ?_ | refine st_nil ?_ | refine x_ rfl rfl rfl rfl rfl rfl rfl rfl ?_ | refine l_ rfl rfl rfl rfl ?_ | refine s_ rfl rfl rfl ?_ | refine t_ rfl rfl rfl rfl ?_ | refine k_ rfl rfl rfl ?_ | refine k0_ rfl rfl ?_ | refine c_ rfl rfl rfl rfl ?_ | refine pick_t rfl rfl rfl rfl rfl rfl rfl ?_ | refine pick_f rfl rfl rfl rfl rfl rfl rfl ?_ | refine aw_seq ?_ | refine aw_condT rfl ?_ | refine aw_condF rfl ?_ | refine aw_block ?_ | refine aw_exit ?_ | refine aw_ret ?_ | refine aw_skip ?_ | rw [List.length_map] | rw [mn_norm] | rw [mx_norm])
      refine aw_region tab_ok _ rfl ?_
      repeat' (first | refine p_ rfl rfl rfl rfl rfl ?_ | refine st_nil ?_ | refine x_ rfl rfl rfl rfl rfl rfl rfl rfl ?_ | refine l_ rfl rfl rfl rfl ?_ | refine s_ rfl rfl rfl ?_ | refine t_ rfl rfl rfl rfl ?_ | refine k_ rfl rfl rfl ?_ | refine k0_ rfl rfl ?_ | refine c_ rfl rfl rfl rfl ?_ | refine pick_t rfl rfl rfl rfl rfl rfl rfl ?_ | refine pick_f rfl rfl rfl rfl rfl rfl rfl ?_ | refine aw_seq ?_ | refine aw_condT rfl ?_ | refine aw_condF rfl ?_ | refine aw_block ?_ | refine aw_exit ?_ | refine aw_ret ?_ | refine aw_skip ?_ | rw [List.length_map] | rw [mn_norm] | rw [mx_norm])
      refine aw_region tab_ok _ rfl ?_
      repeat' (first | refine p_ rfl rfl rfl rfl rfl ?_ | refine st_nil ?_ | refine x_ rfl rfl rfl rfl rfl rfl rfl rfl ?_ | refine l_ rfl rfl rfl rfl ?_ | refine s_ rfl rfl rfl ?_ | refine t_ rfl rfl rfl rfl ?_ | refine k_ rfl rfl rfl ?_ | refine k0_ rfl rfl ?_ | refine c_ rfl rfl rfl rfl ?_ | refine pick_t rfl rfl rfl rfl rfl rfl rfl ?_ | refine pick_f rfl rfl rfl rfl rfl rfl rfl ?_ | refine aw_seq ?_ | refine aw_condT rfl ?_ | refine aw_condF rfl ?_ | refine aw_block ?_ | refine aw_exit ?_ | refine aw_ret ?_ | refine aw_skip ?_ | rw [List.length_map] | rw [mn_norm] | rw [mx_norm])
      refine aw_region tab_ok _ rfl ?_
      repeat' (first | refine p_ rfl rfl rfl rfl rfl ?_ | refine st_nil ?_ | refine x_ rfl rfl rfl rfl rfl rfl rfl rfl ?_ | refine l_ rfl rfl rfl rfl ?_ | refine s_ rfl rfl rfl ?_ | refine t_ rfl rfl rfl rfl ?_ | refine k_ rfl rfl rfl ?_ | refine k0_ rfl rfl ?_ | refine c_ rfl rfl rfl rfl ?_ | refine pick_t rfl rfl rfl rfl rfl rfl rfl ?_ | refine pick_f rfl rfl rfl rfl rfl rfl rfl ?_ | refine aw_seq ?_ | refine aw_condT rfl ?_ | refine aw_condF rfl ?_ | refine aw_block ?_ | refine aw_exit ?_ | refine aw_ret ?_ | refine aw_skip ?_ | rw [List.length_map] | rw [mn_norm] | rw [mx_norm])
      refine aw_freezeBox 0 (by rfl) (by rfl) ?_
      simp only [List.map_cons, List.map_nil, unA, unS, unC, capsC, List.drop, if_true, List.set]
      obtain rfl := Option.some.inj H
      exact go_
    · rw [q_2, cond_false] at H
      rcases Bool.eq_false_or_eq_true (decide (a_c.kind = (2 : Int))) with q_3 | q_3
      · rw [q_3, cond_true] at H
        repeat' (first | refine p_ rfl rfl rfl rfl rfl ?_ | refine st_nil ?_ | refine x_ rfl rfl rfl rfl rfl rfl rfl rfl ?_ | refine l_ rfl rfl rfl rfl ?_ | refine s_ rfl rfl rfl ?_ | refine t_ rfl rfl rfl rfl ?_ | refine k_ rfl rfl rfl ?_ | refine k0_ rfl rfl ?_ | refine c_ rfl rfl rfl rfl ?_ | refine pick_t rfl rfl rfl rfl rfl rfl rfl ?_ | refine pick_f rfl rfl rfl rfl rfl rfl rfl ?_ | refine aw_seq ?_ | refine aw_condT rfl ?_ | refine aw_condF rfl ?_ | refine aw_block ?_ | refine aw_exit ?_ | refine aw_ret ?_ | refine aw_skip ?_ | rw [List.length_map] | rw [mn_norm] | rw [mx_norm])
        refine aw_region tab_ok _ rfl ?_
        repeat' (first | refine p_ rfl rfl rfl rfl rfl ?_ | refine st_nil ?_ | refine x_ rfl rfl rfl rfl rfl rfl rfl rfl ?_ | refine l_ rfl rfl rfl rfl ?_ | refine s_ rfl rfl rfl ?_ | refine t_ rfl rfl rfl rfl ?_ | refine k_ rfl rfl rfl ?_ | refine k0_ rfl rfl ?_ | refine c_ rfl rfl rfl rfl ?_ | refine pick_t rfl rfl rfl rfl rfl rfl rfl ?_ | refine pick_f rfl rfl rfl rfl rfl rfl rfl ?_ | refine aw_seq ?_ | refine aw_condT rfl ?_ | refine aw_condF rfl ?_ | refine aw_block ?_ | refine aw_exit ?_ | refine aw_ret ?_ | refine aw_skip ?_ | rw [List.length_map] | rw [mn_norm] | rw [mx_norm])
        refine aw_region tab_ok _ rfl ?_
        repeat' (first | refine p_ rfl rfl rfl rfl rfl ?_ | refine st_nil ?_ | refine x_ rfl rfl rfl rfl rfl rfl rfl rfl ?_ | refine l_ rfl rfl rfl rfl ?_ | refine s_ rfl rfl rfl ?_ | refine t_ rfl rfl rfl rfl ?_ | refine k_ rfl rfl rfl ?_ | refine k0_ rfl rfl ?_ | refine c_ rfl rfl rfl rfl ?_ | refine pick_t rfl rfl rfl rfl rfl rfl rfl ?_ | refine pick_f rfl rfl rfl rfl rfl rfl rfl ?_ | refine aw_seq ?_ | refine aw_condT rfl ?_ | refine aw_condF rfl ?_ | refine aw_block ?_ | refine aw_exit ?_ | refine aw_ret ?_ | refine aw_skip ?_ | rw [List.length_map] | rw [mn_norm] | rw [mx_norm])
        refine aw_region tab_ok _ rfl ?_
        repeat' (first | refine p_ rfl rfl rfl rfl rfl ?_ | refine st_nil ?_ | refine x_ rfl rfl rfl rfl rfl rfl rfl rfl ?_ | refine l_ rfl rfl rfl rfl ?_ | refine s_ rfl rfl rfl ?_ | refine t_ rfl rfl rfl rfl ?_ | refine k_ rfl rfl rfl ?_ | refine k0_ rfl rfl ?_ | refine c_ rfl rfl rfl rfl ?_ | refine pick_t rfl rfl rfl rfl rfl rfl rfl ?_ | refine pick_f rfl rfl rfl rfl rfl rfl rfl ?_ | refine aw_seq ?_ | refine aw_condT rfl ?_ | refine aw_condF rfl ?_ | refine aw_block ?_ | refine aw_exit ?_ | refine aw_ret ?_ | refine aw_skip ?_ | rw [List.length_map] | rw [mn_norm] | rw [mx_norm])
        refine aw_region tab_ok _ rfl ?_
        repeat' (first | refine p_ rfl rfl rfl rfl rfl ?_ | refine st_nil ?_ | refine x_ rfl rfl rfl rfl rfl rfl rfl rfl ?_ | refine l_ rfl rfl rfl rfl ?_ | refine s_ rfl rfl rfl ?_ | refine t_ rfl rfl rfl rfl ?_ | refine k_ rfl rfl rfl ?_ | refine k0_ rfl rfl ?_ | refine c_ rfl rfl rfl rfl ?_ | refine pick_t rfl rfl rfl rfl rfl rfl rfl ?_ | refine pick_f rfl rfl rfl rfl rfl rfl rfl ?_ | refine aw_seq ?_ | refine aw_condT rfl ?_ | refine aw_condF rfl ?_ | refine aw_block ?_ | refine aw_exit ?_ | refine aw_ret ?_ | refine aw_skip ?_ | rw [List.length_map] | rw [mn_norm] | rw [mx_norm])
        refine aw_region tab_ok _ rfl ?_
        repeat' (first | refine p_ rfl rfl rfl rfl rfl ?_ | refine st_nil ?_ | refine x_ rfl rfl rfl rfl rfl rfl rfl rfl ?_ | refine l_ rfl rfl rfl rfl ?_ | refine s_ rfl rfl rfl ?_ | refine t_ rfl rfl rfl rfl ?_ | refine k_ rfl rfl rfl ?_ | refine k0_ rfl rfl ?_ | refine c_ rfl rfl rfl rfl ?_ | refine pick_t rfl rfl rfl rfl rfl rfl rfl ?_ | refine pick_f rfl rfl rfl rfl rfl rfl rfl ?_ | refine aw_seq ?_ | refine aw_condT rfl ?_ | refine aw_condF rfl ?_ | refine aw_block ?_ | refine aw_exit ?_ | refine aw_ret ?_ | refine aw_skip ?_ | rw [List.length_map] | rw [mn_norm] | rw [mx_norm])
        refine aw_freezeBox 0 (by rfl) (by rfl) ?_
        simp only [List.map_cons, List.map_nil, unA, unS, unC, capsC, List.drop, if_true, List.set]
        obtain rfl := Option.some.inj H
        exact go_
      · rw [q_3, cond_false] at H
        rcases Bool.eq_false_or_eq_true (decide (a_c.kind = (3 : Int))) with q_4 | q_4
        · rw [q_4, cond_true] at H
          repeat' (first | refine p_ rfl rfl rfl rfl rfl ?_ | refine st_nil ?_ | refine x_ rfl rfl rfl rfl rfl rfl rfl rfl ?_ | refine l_ rfl rfl rfl rfl ?_ | refine s_ rfl rfl rfl ?_ | refine t_ rfl rfl rfl rfl ?_ | refine k_ rfl rfl rfl ?_ | refine k0_ rfl rfl ?_ | refine c_ rfl rfl rfl rfl ?_ | refine pick_t rfl rfl rfl rfl rfl rfl rfl ?_ | refine pick_f rfl rfl rfl rfl rfl rfl rfl ?_ | refine aw_seq ?_ | refine aw_condT rfl ?_ | refine aw_condF rfl ?_ | refine aw_block ?_ | refine aw_exit ?_ | refine aw_ret ?_ | refine aw_skip ?_ | rw [List.length_map] | rw [mn_norm] | rw [mx_norm])
          refine aw_region tab_ok _ rfl ?_
          repeat' (first | refine p_ rfl rfl rfl rfl rfl ?_ | refine st_nil ?_ | refine x_ rfl rfl rfl rfl rfl rfl rfl rfl ?_ | refine l_ rfl rfl rfl rfl ?_ | refine s_ rfl rfl rfl ?_ | refine t_ rfl rfl rfl rfl ?_ | refine k_ rfl rfl rfl ?_ | refine k0_ rfl rfl ?_ | refine c_ rfl rfl rfl rfl ?_ | refine pick_t rfl rfl rfl rfl rfl rfl rfl ?_ | refine pick_f rfl rfl rfl rfl rfl rfl rfl ?_ | refine aw_seq ?_ | refine aw_condT rfl ?_ | refine aw_condF rfl ?_ | refine aw_block ?_ | refine aw_exit ?_ | refine aw_ret ?_ | refine aw_skip ?_ | rw [List.length_map] | rw [mn_norm] | rw [mx_norm])
          refine aw_region tab_ok _ rfl ?_
          repeat' (first | refine p_ rfl rfl rfl rfl rfl ?_ | refine st_nil ?_ | refine x_ rfl rfl rfl rfl rfl rfl rfl rfl ?_ | refine l_ rfl rfl rfl rfl ?_ | refine s_ rfl rfl rfl ?_ | refine t_ rfl rfl rfl rfl ?_ | refine k_ rfl rfl rfl ?_ | refine k0_ rfl rfl ?_ | refine c_ rfl rfl rfl rfl ?_ | refine pick_t rfl rfl rfl rfl rfl rfl rfl ?_ | refine pick_f rfl rfl rfl rfl rfl rfl rfl ?_ | refine aw_seq ?_ | refine aw_condT rfl ?_ | refine aw_condF rfl ?_ | refine aw_block ?_ | refine aw_exit ?_ | refine aw_ret ?_ | refine aw_skip ?_ | rw [List.length_map] | rw [mn_norm] | rw [mx_norm])
          refine aw_region tab_ok _ rfl ?_
          repeat' (first | refine p_ rfl rfl rfl rfl rfl ?_ | refine st_nil ?_ | refine x_ rfl rfl rfl rfl rfl rfl rfl rfl ?_ | refine l_ rfl rfl rfl rfl ?_ | refine s_ rfl rfl rfl ?_ | refine t_ rfl rfl rfl rfl ?_ | refine k_ rfl rfl rfl ?_ | refine k0_ rfl rfl ?_ | refine c_ rfl rfl rfl rfl ?_ | refine pick_t rfl rfl rfl rfl rfl rfl rfl ?_ | refine pick_f rfl rfl rfl rfl rfl rfl rfl ?_ | refine aw_seq ?_ | refine aw_condT rfl ?_ | refine aw_condF rfl ?_ | refine aw_block ?_ | refine aw_exit ?_ | refine aw_ret ?_ | refine aw_skip ?_ | rw [List.length_map] | rw [mn_norm] | rw [mx_norm])
          refine aw_region tab_ok _ rfl ?_
          repeat' (first | refine p_ rfl rfl rfl rfl rfl ?_ | refine st_nil ?_ | refine x_ rfl rfl rfl rfl rfl rfl rfl rfl ?_ | refine l_ rfl rfl rfl rfl ?_ | refine s_ rfl rfl rfl ?_ | refine t_ rfl rfl rfl rfl ?_ | refine k_ rfl rfl rfl ?_ | refine k0_ rfl rfl ?_ | refine c_ rfl rfl rfl rfl ?_ | refine pick_t rfl rfl rfl rfl rfl rfl rfl ?_ | refine pick_f rfl rfl rfl rfl rfl rfl rfl ?_ | refine aw_seq ?_ | refine aw_condT rfl ?_ | refine aw_condF rfl ?_ | refine aw_block ?_ | refine aw_exit ?_ | refine aw_ret ?_ | refine aw_skip ?_ | rw [List.length_map] | rw [mn_norm] | rw [mx_norm])
          refine aw_region tab_ok _ rfl ?_
          repeat' (first | refine p_ rfl rfl rfl rfl rfl ?_ | refine st_nil ?_ | refine x_ rfl rfl rfl rfl rfl rfl rfl rfl ?_ | refine l_ rfl rfl rfl rfl ?_ | refine s_ rfl rfl rfl ?_ | refine t_ rfl rfl rfl rfl ?_ | refine k_ rfl rfl rfl ?_ | refine k0_ rfl rfl ?_ | refine c_ rfl rfl rfl rfl ?_ | refine pick_t rfl rfl rfl rfl rfl rfl rfl ?_ | refine pick_f rfl rfl rfl rfl rfl rfl rfl ?_ | refine aw_seq ?_ | refine aw_condT rfl ?_ | refine aw_condF rfl ?_ | refine aw_block ?_ | refine aw_exit ?_ | refine aw_ret ?_ | refine aw_skip ?_ | rw [List.length_map] | rw [mn_norm] | rw [mx_norm])
          refine aw_region tab_ok _ rfl ?_
          repeat' (first | refine p_ rfl rfl rfl rfl rfl ?_ | refine st_nil ?_ | refine x_ rfl rfl rfl rfl rfl rfl rfl rfl ?_ | refine l_ rfl rfl rfl rfl ?_ | refine s_ rfl rfl rfl ?_ | refine t_ rfl rfl rfl rfl ?_ | refine k_ rfl rfl rfl ?_ | refine k0_ rfl rfl ?_ | refine c_ rfl rfl rfl rfl ?_ | refine pick_t rfl rfl rfl rfl rfl rfl rfl ?_ | refine pick_f rfl rfl rfl rfl rfl rfl rfl ?_ | refine aw_seq ?_ | refine aw_condT rfl ?_ | refine aw_condF rfl ?_ | refine aw_block ?_ | refine aw_exit ?_ | refine aw_ret ?_ | refine aw_skip ?_ | rw [List.length_map] | rw [mn_norm] | rw [mx_norm])
          refine aw_freezeBox 0 (by rfl) (by rfl) ?_
          simp only [List.map_cons, List.map_nil, unA, unS, unC, capsC, List.drop, if_true, List.set]
          obtain rfl := Option.some.inj H
          exact go_
        · rw [q_4, cond_false] at H
          rcases Bool.eq_false_or_eq_true (decide (a_c.kind = (4 : Int))) with q_5 | q_5
          · rw [q_5, cond_true] at H
            obtain rfl := Option.some.inj H
            exact go_
          · rw [q_5, cond_false] at H
            obtain rfl := Option.some.inj H
            exact go_
def gSelect_B1 (a_l : (List Ver)) (sel : Per → Option (Bool)) : ((List Ver) × Int) → Option (Step ((List Ver) × Int) ((List Ver))) := fun s => match s with
  | (out_2, v_3) => bif (decide (v_3 < ((a_l.length : Nat) : Int))) then
    (getI a_l v_3).bind fun x_5 => (gPV x_5.system).bind fun r_6 => bif r_6 then
      (sel x_5.system).bind fun r_8 => bif r_8 then
        bif (decide (x_5.row.length ≤ 4398046511104)) then (bif (decide (out_2.length + 1 ≤ 1599289640401)) then (some (.next ((out_2 ++ [x_5]), (IntKind.i64.wrap (v_3 + (1 : Int)))))) else none) else none
      else
        some (.next (out_2, (IntKind.i64.wrap (v_3 + (1 : Int)))))
    else
      some (.next (out_2, (IntKind.i64.wrap (v_3 + (1 : Int)))))
  else
    some (.exit (out_2, v_3))
def gSelect_K1 : Sum ((List Ver) × Int) ((List Ver)) → Option (((List Ver)))
  | .inl (out_2, v_3) => some out_2
  | .inr q => some q
def gSelect (sel : Per → Option (Bool)) (a_l : (List Ver)) (a_c : Cla) : Option ((List Ver)) := (loopM (gSelect_B1 a_l sel) fuel ([], (0 : Int))).bind (gSelect_K1)
theorem gSelect_ok {sel : Per → Option (Bool)}  {F_sel : FuncId} {caps_sel : List AC} (hf_sel : ∀ (y0 : Per) (r : Bool), sel y0 = some r → Pure Tryz.prog F_sel ([.agg (cPer y0)] ++ caps_sel.map .one) (.val (.one (.bool r)))) {a_l : (List Ver)} {a_c : Cla} {r : (List Ver)} (hof : Pure Tryz.prog 42 [.agg (cCla a_c)] (.val (.agg [.fn F_sel caps_sel]))) (H : gSelect sel a_l a_c = some r) : Pure Tryz.prog 13 [.one (.lst (a_l.map cVer)), .agg (cCla a_c)] (.val (.one (.lst (r.map cVer)))) := by
  unfold gSelect at H
  refine pure_of_aw tab_ok Tryz.func13 rfl rfl Tryz.ntmps13 (by simp) ?_
  simp only [argT, PV.av, List.map_cons, List.map_nil]
  have hc_1 := hof
  try simp only [List.map_append, List.map_cons, List.map_nil, List.nil_append, tE_eq, tP_eq] at hc_1
  repeat' (first | refine p_ rfl rfl rfl rfl rfl ?_ | refine st_nil ?_ | refine x_ rfl rfl rfl rfl rfl rfl rfl rfl ?_ | refine l_ rfl rfl rfl rfl ?_ | refine s_ rfl rfl rfl ?_ | refine t_ rfl rfl rfl rfl ?_ | refine k_ rfl rfl rfl ?_ | refine k0_ rfl rfl ?_ | refine c_ rfl rfl rfl rfl ?_ | refine pick_t rfl rfl rfl rfl rfl rfl rfl ?_ | refine pick_f rfl rfl rfl rfl rfl rfl rfl ?_ | refine aw_seq ?_ | refine aw_region tab_ok _ rfl ?_ | refine aw_drawn2 tabS_ok _ rfl mixed (by decide +kernel) ?_ | refine aw_condT rfl ?_ | refine aw_condF rfl ?_ | refine aw_block ?_ | refine aw_exit ?_ | refine aw_ret ?_ | refine aw_skip ?_ | rw [List.length_map] | rw [mn_norm] | rw [mx_norm])
  refine aw_tok 6 9 rfl ?_
  refine aw_loopM (fun s : (List Ver) × Int => match s with | (out_2, v_3) => [(4, .one (.emp)), (5, .one (.ptr 1 0)), (6, .one (.own (out_2.map cVer) 2)), (11, .one (.c (.lst (a_l.map cVer)))), (12, .one (.c (.int .i64 ((a_l.length : Nat) : Int)))), (13, .one (.c (.int .i64 v_3)))]) (fun s => match s with | (out_2, v_3) => [.box [.c (.int .i64 a_c.kind), .c (.int .i64 a_c.lo), .c (.int .i64 a_c.hi)], .box [.c (.fn F_sel caps_sel)], .spare out_2.length 9]) H (fun _ => Nat.zero_le _)
    (fits_mk ⟨rfl, rfl, rfl, rfl, rfl, rfl, trivial⟩ [] rfl ⟨trivial, by show 1 < 3; omega, by show 2 < 3; omega, trivial, trivial, trivial, trivial⟩ ⟨ob_below (by rfl), ob_below (by rfl), trivial, trivial⟩) ?_
  rintro ⟨out_2, v_3⟩ st1 hb1 hk1
  unfold gSelect_B1 at hb1
  dsimp only at hb1 ⊢
  rcases Bool.eq_false_or_eq_true (decide (v_3 < ((a_l.length : Nat) : Int))) with q_4 | q_4
  · rw [q_4, cond_true] at hb1
    obtain ⟨x_5, i1, hb1⟩ := bind_some hb1
    obtain ⟨i1z, i1⟩ := getI_some i1
    have i1x := idxI (f := cVer) i1
    obtain ⟨r_6, c2, hb1⟩ := bind_some hb1
    replace c2 := gPV_ok c2
    try simp only [List.map_append, List.map_cons, List.map_nil, List.nil_append, tE_eq, tP_eq] at c2
    rcases Bool.eq_false_or_eq_true r_6 with q_7 | q_7
    · rw [q_7, cond_true] at hb1
      obtain ⟨r_8, c3, hb1⟩ := bind_some hb1
      replace c3 := hf_sel _ _ c3
      try simp only [List.map_append, List.map_cons, List.map_nil, List.nil_append, tE_eq, tP_eq] at c3
      rcases Bool.eq_false_or_eq_true r_8 with q_9 | q_9
      · rw [q_9, cond_true] at hb1
        obtain ⟨g4, hb1⟩ := grd_some hb1
        replace g4 := of_decide_eq_true g4
        obtain ⟨g5, hb1⟩ := grd_some hb1
        replace g5 := of_decide_eq_true g5
        obtain rfl := Option.some.inj hb1
        repeat' (first | refine p_ rfl rfl rfl rfl rfl ?_ | refine st_nil ?_ | refine x_ rfl rfl rfl rfl rfl rfl rfl rfl ?_ | refine l_ rfl rfl rfl rfl ?_ | refine s_ rfl rfl rfl ?_ | refine t_ rfl rfl rfl rfl ?_ | refine k_ rfl rfl rfl ?_ | refine k0_ rfl rfl ?_ | refine c_ rfl rfl rfl rfl ?_ | refine pick_t rfl rfl rfl rfl rfl rfl rfl ?_ | refine pick_f rfl rfl rfl rfl rfl rfl rfl ?_ | refine aw_seq ?_ | refine aw_region tab_ok _ rfl ?_ | refine aw_drawn2 tabS_ok _ rfl mixed (by decide +kernel) ?_ | refine aw_condT rfl ?_ | refine aw_condF rfl ?_ | refine aw_block ?_ | refine aw_exit ?_ | refine aw_ret ?_ | refine aw_skip ?_ | rw [List.length_map] | rw [mn_norm] | rw [mx_norm])
        exact ⟨_, rfl, fits_mk ⟨rfl, rfl, (by simp only [List.map_append, List.map_cons, List.map_nil, List.nil_append] <;> rfl), rfl, rfl, rfl, trivial⟩ [_, _] (by simp only [List.length_append, List.length_cons, List.length_nil, Nat.zero_add] <;> rfl) ⟨trivial, by show 1 < 3; omega, by show 2 < 3; omega, trivial, trivial, trivial, trivial⟩ ⟨ob_below (by rfl), ob_below (by rfl), trivial, trivial⟩⟩
      · rw [q_9, cond_false] at hb1
        obtain rfl := Option.some.inj hb1
        repeat' (first | refine p_ rfl rfl rfl rfl rfl ?_ | refine st_nil ?_ | refine x_ rfl rfl rfl rfl rfl rfl rfl rfl ?_ | refine l_ rfl rfl rfl rfl ?_ | refine s_ rfl rfl rfl ?_ | refine t_ rfl rfl rfl rfl ?_ | refine k_ rfl rfl rfl ?_ | refine k0_ rfl rfl ?_ | refine c_ rfl rfl rfl rfl ?_ | refine pick_t rfl rfl rfl rfl rfl rfl rfl ?_ | refine pick_f rfl rfl rfl rfl rfl rfl rfl ?_ | refine aw_seq ?_ | refine aw_region tab_ok _ rfl ?_ | refine aw_drawn2 tabS_ok _ rfl mixed (by decide +kernel) ?_ | refine aw_condT rfl ?_ | refine aw_condF rfl ?_ | refine aw_block ?_ | refine aw_exit ?_ | refine aw_ret ?_ | refine aw_skip ?_ | rw [List.length_map] | rw [mn_norm] | rw [mx_norm])
        exact ⟨_, rfl, fits_mk ⟨rfl, rfl, (by simp only [List.map_append, List.map_cons, List.map_nil, List.nil_append] <;> rfl), rfl, rfl, rfl, trivial⟩ [_] (by simp only [List.length_append, List.length_cons, List.length_nil, Nat.zero_add] <;> rfl) ⟨trivial, by show 1 < 3; omega, by show 2 < 3; omega, trivial, trivial, trivial, trivial⟩ ⟨ob_below (by rfl), ob_below (by rfl), trivial, trivial⟩⟩
    · rw [q_7, cond_false] at hb1
      obtain rfl := Option.some.inj hb1
      repeat' (first | refine p_ rfl rfl rfl rfl rfl ?_ | refine st_nil ?_ | refine x_ rfl rfl rfl rfl rfl rfl rfl rfl ?_ | refine l_ rfl rfl rfl rfl ?_ | refine s_ rfl rfl rfl ?_ | refine t_ rfl rfl rfl rfl ?_ | refine k_ rfl rfl rfl ?_ | refine k0_ rfl rfl ?_ | refine c_ rfl rfl rfl rfl ?_ | refine pick_t rfl rfl rfl rfl rfl rfl rfl ?_ | refine pick_f rfl rfl rfl rfl rfl rfl rfl ?_ | refine aw_seq ?_ | refine aw_region tab_ok _ rfl ?_ | refine aw_drawn2 tabS_ok _ rfl mixed (by decide +kernel) ?_ | refine aw_condT rfl ?_ | refine aw_condF rfl ?_ | refine aw_block ?_ | refine aw_exit ?_ | refine aw_ret ?_ | refine aw_skip ?_ | rw [List.length_map] | rw [mn_norm] | rw [mx_norm])
      exact ⟨_, rfl, fits_mk ⟨rfl, rfl, (by simp only [List.map_append, List.map_cons, List.map_nil, List.nil_append] <;> rfl), rfl, rfl, rfl, trivial⟩ [_] (by simp only [List.length_append, List.length_cons, List.length_nil, Nat.zero_add] <;> rfl) ⟨trivial, by show 1 < 3; omega, by show 2 < 3; omega, trivial, trivial, trivial, trivial⟩ ⟨ob_below (by rfl), ob_below (by rfl), trivial, trivial⟩⟩
  · rw [q_4, cond_false] at hb1
    obtain rfl := Option.some.inj hb1
    have hx1 : gSelect_K1 (.inl (out_2, v_3)) = some _ := hk1
    unfold gSelect_K1 at hx1
    dsimp only at hx1
    obtain rfl := Option.some.inj hx1
    exact go_
end Go.Proofs.YtnbnpnmkgemdeaaGreatDoor
namespace Go.Proofs.YtnbnpnmkgemdeaaGreatDoor
open Go.RowKit Go.MapKept
set_option maxRecDepth 100000
section
variable {P : Program} {ti : TI} {B : Nat → Prop} {R : PH} {γ : List Gh} {L : List Ob} {w : World} {ρ : Operand → Option AV}
theorem sop_litAgg (hti : TIok P ti) {t : TypeId} {E k : Nat} {y : Operand} {cs : List SV} (hy : ρ y = some (.agg cs)) (hl : cs.length = k) (hk : 0 < k) (hk2 : k ≤ 1000) (ht : ti.elem t = some E) (hE : E < 65536) (hsz : ti.size E = some k) (hzo : ti.zok E = true) :
    Sop P ρ L (.buildSlice t 1 #[(0, y)]) (.one (.sl L.length (E + 65536) 0 1)) (L ++ [.row (E + 65536) [cs] k]) := by
  intro B R γ w ev o ho hi hρ hfv
  obtain ⟨dst, op, type, pos, after, guard⟩ := o
  simp only at ho; subst ho
  obtain ⟨vs, hev, hvs, hrep⟩ := hρ y (by simp [Op.operands]) _ hy
  obtain ⟨i, z, hi1, hi2, hi3, hi4⟩ := hti.zok _ hzo _ (hti.size _ _ hsz)
  have hb := run_buildSlice (P := P) w t E 1 #[(0, ev y)] vs i z (under_of hti ht) hi1 hi2 (by rw [hi3]; omega) (by rw [hi3]; omega) (by
    have h1 := Go.Great.fill_whole hk [ev y] ((Array.range (1 * i.size)).map (z.cells[· % z.cells.size]!)) (by intro v hv; rw [List.mem_singleton.1 hv, hev]; show vs.size = k; omega) (by simp [hi3])
    have h2 : ([ev y].flatMap fun v => v.cells.toList).toArray = vs := by rw [hev]; simp [Value.cells]
    rw [h2, hi3] at h1
    rw [hi3]
    exact h1)
  have hrun : (execOp ev { dst, op := .buildSlice t 1 #[(0, y)], type, pos, after, guard }).run P w = .ok (.value (.slice (some ⟨w.heap.size, 0, none⟩) 1 1)) (w.alloc (.cells vs E)) := by
    simp [execOp, hb]
  have hm : Mv R R γ (γ ++ [.arr w.heap.size 1]) L (L ++ [.row (E + 65536) [cs] k]) := Mv.push _ _ hi.len
  refine ⟨_, R, _, .inl ⟨_, hrun, ⟨rfl, rfl⟩, by simp, fun ver2 es2 k2 e2 => ?_⟩, ?_, ⟨Kept.alloc hi.bsz _, PH.sub_refl _, fun _ _ _ => rfl⟩, hm⟩
  · rw [List.getElem?_append_right (by omega)] at e2
    simp at e2
    obtain ⟨q1, q2, q3⟩ := e2
    subst q1 q2
    exact ⟨Nat.le_refl _, fun _ => ⟨by simp, .arr w.heap.size 1, by rw [← hi.len]; simp, .inl (by rw [Nat.zero_mul])⟩⟩
  · refine hi.push _ _ _ rfl ⟨⟨_, E, ⟨heap_new w _, by show (E : Nat) = (E + 65536) % 65536; omega, by omega⟩, by omega, fun i e j u x he hu hx => ?_⟩, by simp, by omega, by simp [hl], fun o => hi.none_at o⟩
    have hi0 : i = 0 := by have := (List.getElem?_eq_some_iff.1 he).1; simpa using this
    subst hi0
    simp at he; subst he
    exact SV.mv hm (hrep j u x (by simpa using hu) hx)
end
structure GrpC where
  f : Fct
  ps : List Per
abbrev pvalB (p : Per) : Bool := decide (0 ≤ p.lo) && decide (p.lo < p.hi) && decide (p.hi ≤ 1099511627776)
theorem gPV_eq (p : Per) : gPV p = some (pvalB p) := by
  unfold gPV pvalB
  cases h1 : decide (0 ≤ p.lo) <;> cases h2 : decide (p.lo < p.hi) <;> cases h3 : decide (p.hi ≤ 1099511627776) <;> simp_all
def gfind (s : ByteArray) : List GrpC → Option Nat
  | [] => none
  | g :: r => if s = keyC g.f.row then some 0 else (gfind s r).map (· + 1)
def mOf : Nat → List GrpC → List (AC × AV)
  | _, [] => []
  | k, g :: r => (.str (keyC g.f.row), .one (.c (.int .i64 k))) :: mOf (k + 1) r
theorem mOf_keys : ∀ (G : List GrpC) (k : Nat), strKeys (mOf k G)
  | [], _ => by intro p hp; cases hp
  | g :: r, k => by
    intro p hp
    rcases List.mem_cons.1 hp with rfl | hp
    · exact ⟨_, rfl⟩
    · exact mOf_keys r (k + 1) p hp
theorem kidx_mOf (s : ByteArray) : ∀ (G : List GrpC) (k : Nat), kidx s (mOf k G) = gfind s G
  | [], _ => rfl
  | g :: r, k => by
    simp only [mOf, kidx, gfind]
    rw [kidx_mOf s r (k + 1)]
theorem mOf_get : ∀ (G : List GrpC) (k i : Nat), i < G.length → ∃ q, (mOf k G)[i]? = some q ∧ q.2 = .one (.c (.int .i64 ((k + i : Nat) : Int)))
  | [], _, _, h => by simp at h
  | g :: r, k, 0, _ => ⟨_, rfl, by simp⟩
  | g :: r, k, i + 1, h => by
    obtain ⟨q, h1, h2⟩ := mOf_get r (k + 1) i (by simpa using h)
    exact ⟨q, by simpa [mOf] using h1, by rw [h2, show k + 1 + i = k + (i + 1) by omega]⟩
theorem gfind_lt {s : ByteArray} : ∀ {G : List GrpC} {i : Nat}, gfind s G = some i → i < G.length
  | [], _, h => by simp [gfind] at h
  | g :: r, i, h => by
    unfold gfind at h
    split at h
    · injection h with h; subst h; simp
    · cases hr : gfind s r with
      | none => rw [hr] at h; cases h
      | some j => rw [hr] at h; injection h with h; subst h; have := gfind_lt hr; simp; omega
theorem mval_some {s : ByteArray} {G : List GrpC} {i : Nat} {z : AV} (h : gfind s G = some i) : mval (mOf 0 G) s z = .one (.c (.int .i64 i)) := by
  obtain ⟨q, h1, h2⟩ := mOf_get G 0 i (gfind_lt h)
  unfold mval
  rw [kidx_mOf, h]
  simp only [h1, h2, Nat.zero_add]
theorem mval_none {s : ByteArray} {G : List GrpC} {z : AV} (h : gfind s G = none) : mval (mOf 0 G) s z = z := by
  unfold mval
  rw [kidx_mOf, h]
theorem mOf_snoc : ∀ (G : List GrpC) (k : Nat) (g : GrpC), mOf k (G ++ [g]) = mOf k G ++ [(.str (keyC g.f.row), .one (.c (.int .i64 ((k + G.length : Nat) : Int))))]
  | [], k, g => by simp [mOf]
  | x :: r, k, g => by
    have := mOf_snoc r (k + 1) g
    simp only [List.cons_append, mOf, this, List.length_cons, show k + 1 + r.length = k + (r.length + 1) by omega]
theorem mput_none {s : ByteArray} {G : List GrpC} (h : gfind s G = none) (g : GrpC) (hg : keyC g.f.row = s) : mput (mOf 0 G) s (.one (.c (.int .i64 (G.length : Nat)))) = mOf 0 (G ++ [g]) := by
  unfold mput
  rw [kidx_mOf, h, mOf_snoc, hg, Nat.zero_add]
theorem mOf_set {G : List GrpC} {i : Nat} {g : GrpC} (hg : G[i]? = some g) (ps : List Per) : ∀ k, mOf k (G.set i ⟨g.f, ps⟩) = mOf k G := by
  induction G generalizing i with
  | nil => intro k; rfl
  | cons x r ih =>
    intro k
    cases i with
    | zero => simp at hg; subst hg; rfl
    | succ i => simp only [List.set_cons_succ, mOf]; rw [ih (by simpa using hg)]
theorem sop_get1 {P : Program} {ti : TI} {ρ : Operand → Option AV} {L : List Ob} {t kt et : TypeId} {x k : Operand} {s : ByteArray} {id : Nat} {G : List GrpC} {i : Nat} (hti : TIok P ti) (hf : gfind s G = some i) (hx : ρ x = some (.one (.mp id))) (hk : ρ k = some (.one (.c (.str s)))) (hL : L[id]? = some (.map (mOf 0 G)))
    (ht : ti.kind t = some (.map kt et)) (hkt : ti.kind kt = some .string) (hz : ti.zero et = some (.one (.c (.int .i64 0)))) : Sop P ρ L (.lookup t x k true) (.tup [.one (.int .i64 i), .one (.bool true)]) L := by
  have := sop_lookup_ok (P := P) hx hk hL (mOf_keys G 0) (hti.kind _ _ ht) (hti.kind _ _ hkt) (hti.zero _ _ hz) (p := .one (.int .i64 i)) (by rw [mval_some hf]; rfl)
  rw [kidx_mOf, hf] at this
  exact this
theorem sop_get0 {P : Program} {ti : TI} {ρ : Operand → Option AV} {L : List Ob} {t kt et : TypeId} {x k : Operand} {s : ByteArray} {id : Nat} {G : List GrpC} (hti : TIok P ti) (hf : gfind s G = none) (hx : ρ x = some (.one (.mp id))) (hk : ρ k = some (.one (.c (.str s)))) (hL : L[id]? = some (.map (mOf 0 G)))
    (ht : ti.kind t = some (.map kt et)) (hkt : ti.kind kt = some .string) (hz : ti.zero et = some (.one (.c (.int .i64 0)))) : Sop P ρ L (.lookup t x k true) (.tup [.one (.int .i64 0), .one (.bool false)]) L := by
  have := sop_lookup_ok (P := P) hx hk hL (mOf_keys G 0) (hti.kind _ _ ht) (hti.kind _ _ hkt) (hti.zero _ _ hz) (p := .one (.int .i64 0)) (by rw [mval_none hf]; rfl)
  rw [kidx_mOf, hf] at this
  exact this
theorem sop_putG {P : Program} {ti : TI} {ρ : Operand → Option AV} {L : List Ob} {t kt et : TypeId} {x k y : Operand} {s : ByteArray} {id : Nat} {G : List GrpC} (g : GrpC) (hti : TIok P ti) (hf : gfind s G = none) (hg : keyC g.f.row = s) (hx : ρ x = some (.one (.mp id))) (hk : ρ k = some (.one (.c (.str s)))) (hy : ρ y = some (.one (.c (.int .i64 (G.length : Nat))))) (hL : L[id]? = some (.map (mOf 0 G)))
    (ht : ti.kind t = some (.map kt et)) (hkt : ti.kind kt = some .string) : Sop P ρ L (.mapUpdate t x k y) .undef (L.set id (.map (mOf 0 (G ++ [g])))) := by
  have := sop_mapUpdate (P := P) hx hk hy hL (mOf_keys G 0) (hti.kind _ _ ht) (hti.kind _ _ hkt)
  rw [mput_none hf g hg] at this
  exact this
def gstepC (G : List GrpC) (f : Fct) : List GrpC := bif pvalB f.valid then (match gfind (keyC f.row) G with
  | some i => match G[i]? with
    | some g => G.set i ⟨g.f, g.ps ++ [f.valid]⟩
    | none => G
  | none => G ++ [⟨f, [f.valid]⟩]) else G
def gfoldC (l : List Fct) : List GrpC := l.foldl gstepC []
theorem gfoldC_snoc (l : List Fct) (f : Fct) : gfoldC (l ++ [f]) = gstepC (gfoldC l) f := by unfold gfoldC; rw [List.foldl_append]; rfl
theorem gstepC_len (G : List GrpC) (f : Fct) : (gstepC G f).length ≤ G.length + 1 := by
  unfold gstepC
  cases pvalB f.valid with
  | false => rw [cond_false]; omega
  | true =>
    rw [cond_true]
    split
    · split
      · rw [List.length_set]; omega
      · omega
    · simp
theorem gfoldC_len (l : List Fct) : (gfoldC l).length ≤ l.length := by
  have : ∀ (l : List Fct) (G : List GrpC), (l.foldl gstepC G).length ≤ G.length + l.length := by
    intro l
    induction l with
    | nil => intro G; simp
    | cons f l ih => intro G; have h1 := ih (gstepC G f); have h2 := gstepC_len G f; rw [List.foldl_cons, List.length_cons]; omega
  have := this l []
  simpa [gfoldC] using this
theorem gfoldC_mem (l : List Fct) : ∀ g ∈ gfoldC l, g.ps.length ≤ l.length ∧ g.f ∈ l ∧ (∀ p ∈ g.ps, pvalB p = true) := by
  have : ∀ (l : List Fct) (G : List GrpC) (b : Nat) (l0 : List Fct), (∀ g ∈ G, g.ps.length ≤ b ∧ g.f ∈ l0 ∧ (∀ p ∈ g.ps, pvalB p = true)) → ∀ g ∈ l.foldl gstepC G, g.ps.length ≤ b + l.length ∧ g.f ∈ l0 ++ l ∧ (∀ p ∈ g.ps, pvalB p = true) := by
    intro l
    induction l with
    | nil => intro G b l0 h g hg; simpa using h g hg
    | cons f l ih =>
      intro G b l0 h g hg
      rw [List.foldl_cons] at hg
      have hst : ∀ g ∈ gstepC G f, g.ps.length ≤ b + 1 ∧ g.f ∈ l0 ++ [f] ∧ (∀ p ∈ g.ps, pvalB p = true) := by
        intro g hg
        unfold gstepC at hg
        cases hv : pvalB f.valid with
        | false => rw [hv, cond_false] at hg; obtain ⟨a1, a2, a3⟩ := h g hg; exact ⟨by omega, List.mem_append.2 (.inl a2), a3⟩
        | true =>
          rw [hv, cond_true] at hg
          split at hg
          · split at hg
            · rename_i i _ g0 hg0
              rcases List.mem_or_eq_of_mem_set hg with hg | rfl
              · obtain ⟨a1, a2, a3⟩ := h g hg; exact ⟨by omega, List.mem_append.2 (.inl a2), a3⟩
              · obtain ⟨a1, a2, a3⟩ := h g0 (List.mem_of_getElem? hg0)
                refine ⟨by simp; omega, List.mem_append.2 (.inl a2), fun p hp => ?_⟩
                rcases List.mem_append.1 hp with hp | hp
                · exact a3 p hp
                · rw [List.mem_singleton.1 hp]; exact hv
            · obtain ⟨a1, a2, a3⟩ := h g hg; exact ⟨by omega, List.mem_append.2 (.inl a2), a3⟩
          · rcases List.mem_append.1 hg with hg | hg
            · obtain ⟨a1, a2, a3⟩ := h g hg; exact ⟨by omega, List.mem_append.2 (.inl a2), a3⟩
            · rw [List.mem_singleton.1 hg]
              exact ⟨by simp, by simp, fun p hp => by rw [List.mem_singleton.1 hp]; exact hv⟩
      obtain ⟨a1, a2, a3⟩ := ih (gstepC G f) (b + 1) (l0 ++ [f]) hst g hg
      exact ⟨by rw [List.length_cons]; omega, by simpa using a2, a3⟩
  intro g hg
  have := this l [] 0 [] (fun g hg => by cases hg) g hg
  simpa using this
end Go.Proofs.YtnbnpnmkgemdeaaGreatDoor
