/- Parts of the proof, joined. No condition. -/
import Derived.Test.YtfccopdbgfdcdaaGreatDoorKBN
set_option linter.unusedSimpArgs false
set_option linter.unusedVariables false
namespace Go.Proofs.YtfccopdbgfdcdaaGreatDoor
open Go.RowKit Go.MapKept
set_option maxRecDepth 100000
set_option maxHeartbeats 8000000
set_option linter.unusedVariables false
set_option linter.unusedSimpArgs false
noncomputable section
def gValid1 (a_p : Per) : Option (Bool) := bif (decide ((0 : Int) ≤ a_p.lo)) then
  bif (decide (a_p.lo < a_p.hi)) then
    some (decide (a_p.hi ≤ (1099511627776 : Int)))
  else
    some false
 else
  some false
theorem gValid1_ok {a_p : Per} {r : Bool} (H : gValid1 a_p = some r) : Pure Tryz.prog 32 [.agg (cPer a_p)] (.val (.one (.bool r))) := by
  unfold gValid1 at H
  refine pure_of_aw tab_ok Tryz.func32 rfl rfl Tryz.ntmps32 (by simp) ?_
  simp only [argT, PV.av, List.map_cons, List.map_nil]
  rcases Bool.eq_false_or_eq_true (decide ((0 : Int) ≤ a_p.lo)) with q_1 | q_1
  · rw [q_1, cond_true] at H
    rcases Bool.eq_false_or_eq_true (decide (a_p.lo < a_p.hi)) with q_2 | q_2
    · rw [q_2, cond_true] at H
      obtain rfl := Option.some.inj H
      exact go_
    · rw [q_2, cond_false] at H
      obtain rfl := Option.some.inj H
      exact go_
  · rw [q_1, cond_false] at H
    obtain rfl := Option.some.inj H
    exact go_
def gDistinct8_B1 (r_1 : (List (List Val))) : ((List (List Val)) × Int) → Option (Step ((List (List Val)) × Int) ((List (List Val)))) := fun s => match s with
  | (out_2, i_3) => bif (decide (i_3 < ((r_1.length : Nat) : Int))) then
    bif (decide (i_3 = (0 : Int))) then
      (getI r_1 i_3).bind fun x_6 => bif (decide (out_2.length + 1 ≤ 5864062014805)) then (some (.next ((out_2 ++ [x_6]), (IntKind.i64.wrap (i_3 + (1 : Int)))))) else none
    else
      (getI r_1 (IntKind.i64.wrap (i_3 - (1 : Int)))).bind fun x_7 => (getI r_1 i_3).bind fun x_8 => (gEqual8 x_7 x_8).bind fun r_9 => bif (!r_9) then
        bif (decide (out_2.length + 1 ≤ 5864062014805)) then (some (.next ((out_2 ++ [x_8]), (IntKind.i64.wrap (i_3 + (1 : Int)))))) else none
      else
        some (.next (out_2, (IntKind.i64.wrap (i_3 + (1 : Int)))))
  else
    some (.exit (out_2, i_3))
def gDistinct8_K1 : Sum ((List (List Val)) × Int) ((List (List Val))) → Option (((List (List Val))))
  | .inl (out_2, i_3) => some out_2
  | .inr q => some q
def gDistinct8 (a_l : (List (List Val))) : Option ((List (List Val))) := (gSortR a_l).bind fun r_1 => (loopM (gDistinct8_B1 r_1) fuel ([], (0 : Int))).bind (gDistinct8_K1)
theorem gDistinct8_ok {a_l : (List (List Val))} {r : (List (List Val))} (H : gDistinct8 a_l = some r) : Pure Tryz.prog 145 [.one (.lst (a_l.map (fun x => [AC.lst (x.map cV)])))] (.val (.one (.lst (r.map (fun x => [AC.lst (x.map cV)]))))) := by
  unfold gDistinct8 at H
  refine pure_of_aw tab_ok Tryz.func145 rfl rfl Tryz.ntmps145 (by simp) ?_
  simp only [argT, PV.av, List.map_cons, List.map_nil]
  obtain ⟨r_1, c1, H⟩ := bind_some H
  replace c1 := gSortR_ok c1
  try simp only [List.map_append, List.map_cons, List.map_nil, List.nil_append, tE_eq] at c1
  repeat' (first | refine p_ rfl rfl rfl rfl rfl ?_ | refine st_nil ?_ | refine x_ rfl rfl rfl rfl rfl rfl rfl rfl ?_ | refine l_ rfl rfl rfl rfl ?_ | refine s_ rfl rfl rfl ?_ | refine t_ rfl rfl rfl rfl ?_ | refine k_ rfl rfl rfl ?_ | refine k0_ rfl rfl ?_ | refine c_ rfl rfl rfl rfl ?_ | refine pick_t rfl rfl rfl rfl rfl rfl rfl ?_ | refine pick_f rfl rfl rfl rfl rfl rfl rfl ?_ | refine aw_seq ?_ | refine aw_region tab_ok _ rfl ?_ | refine aw_drawn2 tabS_ok _ rfl mixed (by decide +kernel) ?_ | refine aw_condT rfl ?_ | refine aw_condF rfl ?_ | refine aw_block ?_ | refine aw_exit ?_ | refine aw_ret ?_ | refine aw_skip ?_ | rw [List.length_map] | rw [mn_norm] | rw [mx_norm])
  refine aw_tok 4 1 rfl ?_
  refine aw_loopM (fun s : (List (List Val)) × Int => match s with | (out_2, i_3) => [(3, .one (.c (.lst (r_1.map (fun x => [AC.lst (x.map cV)]))))), (4, .one (.own (out_2.map (fun x => [AC.lst (x.map cV)])) 0)), (5, .one (.c (.int .i64 i_3)))]) (fun s => match s with | (out_2, i_3) => [.spare out_2.length 1]) H (fun _ => Nat.zero_le _)
    (fits_mk ⟨rfl, rfl, rfl, trivial⟩ [] rfl ⟨trivial, by show 0 < 1; omega, trivial, trivial⟩ ⟨trivial, trivial⟩) ?_
  rintro ⟨out_2, i_3⟩ st1 hb1 hk1
  unfold gDistinct8_B1 at hb1
  dsimp only at hb1 ⊢
  rcases Bool.eq_false_or_eq_true (decide (i_3 < ((r_1.length : Nat) : Int))) with q_4 | q_4
  · rw [q_4, cond_true] at hb1
    rcases Bool.eq_false_or_eq_true (decide (i_3 = (0 : Int))) with q_5 | q_5
    · rw [q_5, cond_true] at hb1
      obtain ⟨x_6, i2, hb1⟩ := bind_some hb1
      obtain ⟨i2z, i2⟩ := getI_some i2
      have i2x := idxI (f := (fun x => [AC.lst (x.map cV)])) i2
      obtain ⟨g3, hb1⟩ := grd_some hb1
      replace g3 := of_decide_eq_true g3
      obtain rfl := Option.some.inj hb1
      repeat' (first | refine p_ rfl rfl rfl rfl rfl ?_ | refine st_nil ?_ | refine x_ rfl rfl rfl rfl rfl rfl rfl rfl ?_ | refine l_ rfl rfl rfl rfl ?_ | refine s_ rfl rfl rfl ?_ | refine t_ rfl rfl rfl rfl ?_ | refine k_ rfl rfl rfl ?_ | refine k0_ rfl rfl ?_ | refine c_ rfl rfl rfl rfl ?_ | refine pick_t rfl rfl rfl rfl rfl rfl rfl ?_ | refine pick_f rfl rfl rfl rfl rfl rfl rfl ?_ | refine aw_seq ?_ | refine aw_region tab_ok _ rfl ?_ | refine aw_drawn2 tabS_ok _ rfl mixed (by decide +kernel) ?_ | refine aw_condT rfl ?_ | refine aw_condF rfl ?_ | refine aw_block ?_ | refine aw_exit ?_ | refine aw_ret ?_ | refine aw_skip ?_ | rw [List.length_map] | rw [mn_norm] | rw [mx_norm])
      exact ⟨_, rfl, fits_mk ⟨rfl, (by simp only [List.map_append, List.map_cons, List.map_nil, List.nil_append] <;> rfl), rfl, trivial⟩ [] (by simp only [List.length_append, List.length_cons, List.length_nil, Nat.zero_add, List.map_append, List.map_cons, List.map_nil] <;> rfl) ⟨trivial, by show 0 < 1; omega, trivial, trivial⟩ ⟨trivial, trivial⟩⟩
    · rw [q_5, cond_false] at hb1
      obtain ⟨x_7, i4, hb1⟩ := bind_some hb1
      obtain ⟨i4z, i4⟩ := getI_some i4
      have i4x := idxI (f := (fun x => [AC.lst (x.map cV)])) i4
      obtain ⟨x_8, i5, hb1⟩ := bind_some hb1
      obtain ⟨i5z, i5⟩ := getI_some i5
      have i5x := idxI (f := (fun x => [AC.lst (x.map cV)])) i5
      obtain ⟨r_9, c6, hb1⟩ := bind_some hb1
      replace c6 := gEqual8_ok c6
      try simp only [List.map_append, List.map_cons, List.map_nil, List.nil_append, tE_eq] at c6
      rcases Bool.eq_false_or_eq_true (!r_9) with q_10 | q_10
      · rw [q_10, cond_true] at hb1
        obtain ⟨g7, hb1⟩ := grd_some hb1
        replace g7 := of_decide_eq_true g7
        obtain rfl := Option.some.inj hb1
        repeat' (first | refine p_ rfl rfl rfl rfl rfl ?_ | refine st_nil ?_ | refine x_ rfl rfl rfl rfl rfl rfl rfl rfl ?_ | refine l_ rfl rfl rfl rfl ?_ | refine s_ rfl rfl rfl ?_ | refine t_ rfl rfl rfl rfl ?_ | refine k_ rfl rfl rfl ?_ | refine k0_ rfl rfl ?_ | refine c_ rfl rfl rfl rfl ?_ | refine pick_t rfl rfl rfl rfl rfl rfl rfl ?_ | refine pick_f rfl rfl rfl rfl rfl rfl rfl ?_ | refine aw_seq ?_ | refine aw_region tab_ok _ rfl ?_ | refine aw_drawn2 tabS_ok _ rfl mixed (by decide +kernel) ?_ | refine aw_condT rfl ?_ | refine aw_condF rfl ?_ | refine aw_block ?_ | refine aw_exit ?_ | refine aw_ret ?_ | refine aw_skip ?_ | rw [List.length_map] | rw [mn_norm] | rw [mx_norm])
        exact ⟨_, rfl, fits_mk ⟨rfl, (by simp only [List.map_append, List.map_cons, List.map_nil, List.nil_append] <;> rfl), rfl, trivial⟩ [] (by simp only [List.length_append, List.length_cons, List.length_nil, Nat.zero_add, List.map_append, List.map_cons, List.map_nil] <;> rfl) ⟨trivial, by show 0 < 1; omega, trivial, trivial⟩ ⟨trivial, trivial⟩⟩
      · rw [q_10, cond_false] at hb1
        obtain rfl := Option.some.inj hb1
        repeat' (first | refine p_ rfl rfl rfl rfl rfl ?_ | refine st_nil ?_ | refine x_ rfl rfl rfl rfl rfl rfl rfl rfl ?_ | refine l_ rfl rfl rfl rfl ?_ | refine s_ rfl rfl rfl ?_ | refine t_ rfl rfl rfl rfl ?_ | refine k_ rfl rfl rfl ?_ | refine k0_ rfl rfl ?_ | refine c_ rfl rfl rfl rfl ?_ | refine pick_t rfl rfl rfl rfl rfl rfl rfl ?_ | refine pick_f rfl rfl rfl rfl rfl rfl rfl ?_ | refine aw_seq ?_ | refine aw_region tab_ok _ rfl ?_ | refine aw_drawn2 tabS_ok _ rfl mixed (by decide +kernel) ?_ | refine aw_condT rfl ?_ | refine aw_condF rfl ?_ | refine aw_block ?_ | refine aw_exit ?_ | refine aw_ret ?_ | refine aw_skip ?_ | rw [List.length_map] | rw [mn_norm] | rw [mx_norm])
        exact ⟨_, rfl, fits_mk ⟨rfl, (by simp only [List.map_append, List.map_cons, List.map_nil, List.nil_append] <;> rfl), rfl, trivial⟩ [] (by simp only [List.length_append, List.length_cons, List.length_nil, Nat.zero_add, List.map_append, List.map_cons, List.map_nil] <;> rfl) ⟨trivial, by show 0 < 1; omega, trivial, trivial⟩ ⟨trivial, trivial⟩⟩
  · rw [q_4, cond_false] at hb1
    obtain rfl := Option.some.inj hb1
    have hx1 : gDistinct8_K1 (.inl (out_2, i_3)) = some _ := hk1
    unfold gDistinct8_K1 at hx1
    dsimp only at hx1
    obtain rfl := Option.some.inj hx1
    exact go_
def gRows22_B1 (a_l : (List Fct)) : ((List (List Val)) × Int) → Option (Step ((List (List Val)) × Int) ((List (List Val)))) := fun s => match s with
  | (out_1, i_2) => bif (decide (i_2 < ((a_l.length : Nat) : Int))) then
    (getI a_l i_2).bind fun x_4 => (gValid1 x_4.valid).bind fun r_5 => bif r_5 then
      bif (decide (out_1.length + 1 ≤ 5864062014805)) then (some (.next ((out_1 ++ [x_4.row]), (IntKind.i64.wrap (i_2 + (1 : Int)))))) else none
    else
      some (.next (out_1, (IntKind.i64.wrap (i_2 + (1 : Int)))))
  else
    some (.exit (out_1, i_2))
def gRows22_K1 : Sum ((List (List Val)) × Int) ((List (List Val))) → Option (((List (List Val))))
  | .inl (out_1, i_2) => (gDistinct8 out_1).bind fun r_7 => some r_7
  | .inr q => some q
def gRows22 (a_l : (List Fct)) : Option ((List (List Val))) := (loopM (gRows22_B1 a_l) fuel ([], (0 : Int))).bind (gRows22_K1)
theorem gRows22_ok {a_l : (List Fct)} {r : (List (List Val))} (H : gRows22 a_l = some r) : Pure Tryz.prog 98 [.one (.lst (a_l.map cFct))] (.val (.one (.lst (r.map (fun x => [AC.lst (x.map cV)]))))) := by
  unfold gRows22 at H
  refine pure_of_aw tab_ok Tryz.func98 rfl rfl Tryz.ntmps98 (by simp) ?_
  simp only [argT, PV.av, List.map_cons, List.map_nil]
  repeat' (first | refine p_ rfl rfl rfl rfl rfl ?_ | refine st_nil ?_ | refine x_ rfl rfl rfl rfl rfl rfl rfl rfl ?_ | refine l_ rfl rfl rfl rfl ?_ | refine s_ rfl rfl rfl ?_ | refine t_ rfl rfl rfl rfl ?_ | refine k_ rfl rfl rfl ?_ | refine k0_ rfl rfl ?_ | refine c_ rfl rfl rfl rfl ?_ | refine pick_t rfl rfl rfl rfl rfl rfl rfl ?_ | refine pick_f rfl rfl rfl rfl rfl rfl rfl ?_ | refine aw_seq ?_ | refine aw_region tab_ok _ rfl ?_ | refine aw_drawn2 tabS_ok _ rfl mixed (by decide +kernel) ?_ | refine aw_condT rfl ?_ | refine aw_condF rfl ?_ | refine aw_block ?_ | refine aw_exit ?_ | refine aw_ret ?_ | refine aw_skip ?_ | rw [List.length_map] | rw [mn_norm] | rw [mx_norm])
  refine aw_tok 3 1 rfl ?_
  refine aw_loopM (fun s : (List (List Val)) × Int => match s with | (out_1, i_2) => [(0, .one (.c (.lst (a_l.map cFct)))), (3, .one (.own (out_1.map (fun x => [AC.lst (x.map cV)])) 0)), (4, .one (.c (.int .i64 i_2)))]) (fun s => match s with | (out_1, i_2) => [.spare out_1.length 1]) H (fun _ => Nat.zero_le _)
    (fits_mk ⟨rfl, rfl, rfl, trivial⟩ [] rfl ⟨trivial, by show 0 < 1; omega, trivial, trivial⟩ ⟨trivial, trivial⟩) ?_
  rintro ⟨out_1, i_2⟩ st1 hb1 hk1
  unfold gRows22_B1 at hb1
  dsimp only at hb1 ⊢
  rcases Bool.eq_false_or_eq_true (decide (i_2 < ((a_l.length : Nat) : Int))) with q_3 | q_3
  · rw [q_3, cond_true] at hb1
    obtain ⟨x_4, i1, hb1⟩ := bind_some hb1
    obtain ⟨i1z, i1⟩ := getI_some i1
    have i1x := idxI (f := cFct) i1
    obtain ⟨r_5, c2, hb1⟩ := bind_some hb1
    replace c2 := gValid1_ok c2
    try simp only [List.map_append, List.map_cons, List.map_nil, List.nil_append, tE_eq] at c2
    rcases Bool.eq_false_or_eq_true r_5 with q_6 | q_6
    · rw [q_6, cond_true] at hb1
      obtain ⟨g3, hb1⟩ := grd_some hb1
      replace g3 := of_decide_eq_true g3
      obtain rfl := Option.some.inj hb1
      repeat' (first | refine p_ rfl rfl rfl rfl rfl ?_ | refine st_nil ?_ | refine x_ rfl rfl rfl rfl rfl rfl rfl rfl ?_ | refine l_ rfl rfl rfl rfl ?_ | refine s_ rfl rfl rfl ?_ | refine t_ rfl rfl rfl rfl ?_ | refine k_ rfl rfl rfl ?_ | refine k0_ rfl rfl ?_ | refine c_ rfl rfl rfl rfl ?_ | refine pick_t rfl rfl rfl rfl rfl rfl rfl ?_ | refine pick_f rfl rfl rfl rfl rfl rfl rfl ?_ | refine aw_seq ?_ | refine aw_region tab_ok _ rfl ?_ | refine aw_drawn2 tabS_ok _ rfl mixed (by decide +kernel) ?_ | refine aw_condT rfl ?_ | refine aw_condF rfl ?_ | refine aw_block ?_ | refine aw_exit ?_ | refine aw_ret ?_ | refine aw_skip ?_ | rw [List.length_map] | rw [mn_norm] | rw [mx_norm])
      exact ⟨_, rfl, fits_mk ⟨rfl, (by simp only [List.map_append, List.map_cons, List.map_nil, List.nil_append] <;> rfl), rfl, trivial⟩ [] (by simp only [List.length_append, List.length_cons, List.length_nil, Nat.zero_add, List.map_append, List.map_cons, List.map_nil] <;> rfl) ⟨trivial, by show 0 < 1; omega, trivial, trivial⟩ ⟨trivial, trivial⟩⟩
    · rw [q_6, cond_false] at hb1
      obtain rfl := Option.some.inj hb1
      repeat' (first | refine p_ rfl rfl rfl rfl rfl ?_ | refine st_nil ?_ | refine x_ rfl rfl rfl rfl rfl rfl rfl rfl ?_ | refine l_ rfl rfl rfl rfl ?_ | refine s_ rfl rfl rfl ?_ | refine t_ rfl rfl rfl rfl ?_ | refine k_ rfl rfl rfl ?_ | refine k0_ rfl rfl ?_ | refine c_ rfl rfl rfl rfl ?_ | refine pick_t rfl rfl rfl rfl rfl rfl rfl ?_ | refine pick_f rfl rfl rfl rfl rfl rfl rfl ?_ | refine aw_seq ?_ | refine aw_region tab_ok _ rfl ?_ | refine aw_drawn2 tabS_ok _ rfl mixed (by decide +kernel) ?_ | refine aw_condT rfl ?_ | refine aw_condF rfl ?_ | refine aw_block ?_ | refine aw_exit ?_ | refine aw_ret ?_ | refine aw_skip ?_ | rw [List.length_map] | rw [mn_norm] | rw [mx_norm])
      exact ⟨_, rfl, fits_mk ⟨rfl, (by simp only [List.map_append, List.map_cons, List.map_nil, List.nil_append] <;> rfl), rfl, trivial⟩ [] (by simp only [List.length_append, List.length_cons, List.length_nil, Nat.zero_add, List.map_append, List.map_cons, List.map_nil] <;> rfl) ⟨trivial, by show 0 < 1; omega, trivial, trivial⟩ ⟨trivial, trivial⟩⟩
  · rw [q_3, cond_false] at hb1
    obtain rfl := Option.some.inj hb1
    have hx1 : gRows22_K1 (.inl (out_1, i_2)) = some _ := hk1
    unfold gRows22_K1 at hx1
    dsimp only at hx1
    obtain ⟨r_7, c4, hx1⟩ := bind_some hx1
    replace c4 := gDistinct8_ok c4
    try simp only [List.map_append, List.map_cons, List.map_nil, List.nil_append, tE_eq] at c4
    obtain rfl := Option.some.inj hx1
    exact go_
def gCounts22_B1 (a_l : (List Fct)) (a_row : (List Val)) : ((List Cnt) × Int) → Option (Step ((List Cnt) × Int) ((List Stp))) := fun s => match s with
  | (c_1, i_2) => bif (decide (i_2 < ((a_l.length : Nat) : Int))) then
    (getI a_l i_2).bind fun x_4 => (gCmp8 x_4.row a_row).bind fun r_5 => bif (decide (r_5 = (0 : Int))) then
      bif (decide (c_1.length + 1 ≤ 5864062014805)) then (some (.next ((c_1 ++ [(⟨x_4.valid, (1 : Int)⟩ : Cnt)]), (IntKind.i64.wrap (i_2 + (1 : Int)))))) else none
    else
      some (.next (c_1, (IntKind.i64.wrap (i_2 + (1 : Int)))))
  else
    some (.exit (c_1, i_2))
def gCounts22_K1 : Sum ((List Cnt) × Int) ((List Stp)) → Option (((List Stp)))
  | .inl (c_1, i_2) => (gOfR c_1).bind fun r_7 => some r_7
  | .inr q => some q
def gCounts22 (a_l : (List Fct)) (a_row : (List Val)) : Option ((List Stp)) := (loopM (gCounts22_B1 a_l a_row) fuel ([], (0 : Int))).bind (gCounts22_K1)
theorem gCounts22_ok {a_l : (List Fct)} {a_row : (List Val)} {r : (List Stp)} (H : gCounts22 a_l a_row = some r) : Pure Tryz.prog 99 [.one (.lst (a_l.map cFct)), .one (.lst (a_row.map cV))] (.val (.one (.lst (r.map cStp)))) := by
  unfold gCounts22 at H
  refine pure_of_aw tab_ok Tryz.func99 rfl rfl Tryz.ntmps99 (by simp) ?_
  simp only [argT, PV.av, List.map_cons, List.map_nil]
  repeat' (first | refine p_ rfl rfl rfl rfl rfl ?_ | refine st_nil ?_ | refine x_ rfl rfl rfl rfl rfl rfl rfl rfl ?_ | refine l_ rfl rfl rfl rfl ?_ | refine s_ rfl rfl rfl ?_ | refine t_ rfl rfl rfl rfl ?_ | refine k_ rfl rfl rfl ?_ | refine k0_ rfl rfl ?_ | refine c_ rfl rfl rfl rfl ?_ | refine pick_t rfl rfl rfl rfl rfl rfl rfl ?_ | refine pick_f rfl rfl rfl rfl rfl rfl rfl ?_ | refine aw_seq ?_ | refine aw_region tab_ok _ rfl ?_ | refine aw_drawn2 tabS_ok _ rfl mixed (by decide +kernel) ?_ | refine aw_condT rfl ?_ | refine aw_condF rfl ?_ | refine aw_block ?_ | refine aw_exit ?_ | refine aw_ret ?_ | refine aw_skip ?_ | rw [List.length_map] | rw [mn_norm] | rw [mx_norm])
  refine aw_tok 5 3 rfl ?_
  refine aw_loopM (fun s : (List Cnt) × Int => match s with | (c_1, i_2) => [(0, .one (.c (.lst (a_l.map cFct)))), (1, .one (.c (.lst (a_row.map cV)))), (5, .one (.own (c_1.map cCnt) 0)), (6, .one (.c (.int .i64 i_2)))]) (fun s => match s with | (c_1, i_2) => [.spare c_1.length 3]) H (fun _ => Nat.zero_le _)
    (fits_mk ⟨rfl, rfl, rfl, rfl, trivial⟩ [] rfl ⟨trivial, trivial, by show 0 < 1; omega, trivial, trivial⟩ ⟨trivial, trivial⟩) ?_
  rintro ⟨c_1, i_2⟩ st1 hb1 hk1
  unfold gCounts22_B1 at hb1
  dsimp only at hb1 ⊢
  rcases Bool.eq_false_or_eq_true (decide (i_2 < ((a_l.length : Nat) : Int))) with q_3 | q_3
  · rw [q_3, cond_true] at hb1
    obtain ⟨x_4, i1, hb1⟩ := bind_some hb1
    obtain ⟨i1z, i1⟩ := getI_some i1
    have i1x := idxI (f := cFct) i1
    obtain ⟨r_5, c2, hb1⟩ := bind_some hb1
    replace c2 := gCmp8_ok c2
    try simp only [List.map_append, List.map_cons, List.map_nil, List.nil_append, tE_eq] at c2
    rcases Bool.eq_false_or_eq_true (decide (r_5 = (0 : Int))) with q_6 | q_6
    · rw [q_6, cond_true] at hb1
      obtain ⟨g3, hb1⟩ := grd_some hb1
      replace g3 := of_decide_eq_true g3
      obtain rfl := Option.some.inj hb1
      repeat' (first | refine p_ rfl rfl rfl rfl rfl ?_ | refine st_nil ?_ | refine x_ rfl rfl rfl rfl rfl rfl rfl rfl ?_ | refine l_ rfl rfl rfl rfl ?_ | refine s_ rfl rfl rfl ?_ | refine t_ rfl rfl rfl rfl ?_ | refine k_ rfl rfl rfl ?_ | refine k0_ rfl rfl ?_ | refine c_ rfl rfl rfl rfl ?_ | refine pick_t rfl rfl rfl rfl rfl rfl rfl ?_ | refine pick_f rfl rfl rfl rfl rfl rfl rfl ?_ | refine aw_seq ?_ | refine aw_region tab_ok _ rfl ?_ | refine aw_drawn2 tabS_ok _ rfl mixed (by decide +kernel) ?_ | refine aw_condT rfl ?_ | refine aw_condF rfl ?_ | refine aw_block ?_ | refine aw_exit ?_ | refine aw_ret ?_ | refine aw_skip ?_ | rw [List.length_map] | rw [mn_norm] | rw [mx_norm])
      exact ⟨_, rfl, fits_mk ⟨rfl, rfl, (by simp only [List.map_append, List.map_cons, List.map_nil, List.nil_append] <;> rfl), rfl, trivial⟩ [] (by simp only [List.length_append, List.length_cons, List.length_nil, Nat.zero_add, List.map_append, List.map_cons, List.map_nil] <;> rfl) ⟨trivial, trivial, by show 0 < 1; omega, trivial, trivial⟩ ⟨trivial, trivial⟩⟩
    · rw [q_6, cond_false] at hb1
      obtain rfl := Option.some.inj hb1
      repeat' (first | refine p_ rfl rfl rfl rfl rfl ?_ | refine st_nil ?_ | refine x_ rfl rfl rfl rfl rfl rfl rfl rfl ?_ | refine l_ rfl rfl rfl rfl ?_ | refine s_ rfl rfl rfl ?_ | refine t_ rfl rfl rfl rfl ?_ | refine k_ rfl rfl rfl ?_ | refine k0_ rfl rfl ?_ | refine c_ rfl rfl rfl rfl ?_ | refine pick_t rfl rfl rfl rfl rfl rfl rfl ?_ | refine pick_f rfl rfl rfl rfl rfl rfl rfl ?_ | refine aw_seq ?_ | refine aw_region tab_ok _ rfl ?_ | refine aw_drawn2 tabS_ok _ rfl mixed (by decide +kernel) ?_ | refine aw_condT rfl ?_ | refine aw_condF rfl ?_ | refine aw_block ?_ | refine aw_exit ?_ | refine aw_ret ?_ | refine aw_skip ?_ | rw [List.length_map] | rw [mn_norm] | rw [mx_norm])
      exact ⟨_, rfl, fits_mk ⟨rfl, rfl, (by simp only [List.map_append, List.map_cons, List.map_nil, List.nil_append] <;> rfl), rfl, trivial⟩ [] (by simp only [List.length_append, List.length_cons, List.length_nil, Nat.zero_add, List.map_append, List.map_cons, List.map_nil] <;> rfl) ⟨trivial, trivial, by show 0 < 1; omega, trivial, trivial⟩ ⟨trivial, trivial⟩⟩
  · rw [q_3, cond_false] at hb1
    obtain rfl := Option.some.inj hb1
    have hx1 : gCounts22_K1 (.inl (c_1, i_2)) = some _ := hk1
    unfold gCounts22_K1 at hx1
    dsimp only at hx1
    obtain ⟨r_7, c4, hx1⟩ := bind_some hx1
    replace c4 := gOfR_ok c4
    try simp only [List.map_append, List.map_cons, List.map_nil, List.nil_append, tE_eq] at c4
    obtain rfl := Option.some.inj hx1
    exact go_
def gDuring_B1 (a_row : (List Val)) (a_p : (List Per)) : ((List Fct) × Int) → Option (Step ((List Fct) × Int) ((List Fct))) := fun s => match s with
  | (out_1, i_2) => bif (decide (i_2 < ((a_p.length : Nat) : Int))) then
    (getI a_p i_2).bind fun x_4 => bif (decide (out_1.length + 1 ≤ 3518437208883)) then (some (.next ((out_1 ++ [(⟨a_row, x_4⟩ : Fct)]), (IntKind.i64.wrap (i_2 + (1 : Int)))))) else none
  else
    some (.exit (out_1, i_2))
def gDuring_K1 : Sum ((List Fct) × Int) ((List Fct)) → Option (((List Fct)))
  | .inl (out_1, i_2) => some out_1
  | .inr q => some q
def gDuring (a_row : (List Val)) (a_p : (List Per)) : Option ((List Fct)) := (loopM (gDuring_B1 a_row a_p) fuel ([], (0 : Int))).bind (gDuring_K1)
theorem gDuring_ok {a_row : (List Val)} {a_p : (List Per)} {r : (List Fct)} (H : gDuring a_row a_p = some r) : Pure Tryz.prog 63 [.one (.lst (a_row.map cV)), .one (.lst (a_p.map cPer))] (.val (.one (.lst (r.map cFct)))) := by
  unfold gDuring at H
  refine pure_of_aw tab_ok Tryz.func63 rfl rfl Tryz.ntmps63 (by simp) ?_
  simp only [argT, PV.av, List.map_cons, List.map_nil]
  repeat' (first | refine p_ rfl rfl rfl rfl rfl ?_ | refine st_nil ?_ | refine x_ rfl rfl rfl rfl rfl rfl rfl rfl ?_ | refine l_ rfl rfl rfl rfl ?_ | refine s_ rfl rfl rfl ?_ | refine t_ rfl rfl rfl rfl ?_ | refine k_ rfl rfl rfl ?_ | refine k0_ rfl rfl ?_ | refine c_ rfl rfl rfl rfl ?_ | refine pick_t rfl rfl rfl rfl rfl rfl rfl ?_ | refine pick_f rfl rfl rfl rfl rfl rfl rfl ?_ | refine aw_seq ?_ | refine aw_region tab_ok _ rfl ?_ | refine aw_drawn2 tabS_ok _ rfl mixed (by decide +kernel) ?_ | refine aw_condT rfl ?_ | refine aw_condF rfl ?_ | refine aw_block ?_ | refine aw_exit ?_ | refine aw_ret ?_ | refine aw_skip ?_ | rw [List.length_map] | rw [mn_norm] | rw [mx_norm])
  refine aw_tok 5 3 rfl ?_
  refine aw_loopM (fun s : (List Fct) × Int => match s with | (out_1, i_2) => [(0, .one (.c (.lst (a_row.map cV)))), (1, .one (.c (.lst (a_p.map cPer)))), (5, .one (.own (out_1.map cFct) 0)), (6, .one (.c (.int .i64 i_2)))]) (fun s => match s with | (out_1, i_2) => [.spare out_1.length 3]) H (fun _ => Nat.zero_le _)
    (fits_mk ⟨rfl, rfl, rfl, rfl, trivial⟩ [] rfl ⟨trivial, trivial, by show 0 < 1; omega, trivial, trivial⟩ ⟨trivial, trivial⟩) ?_
  rintro ⟨out_1, i_2⟩ st1 hb1 hk1
  unfold gDuring_B1 at hb1
  dsimp only at hb1 ⊢
  rcases Bool.eq_false_or_eq_true (decide (i_2 < ((a_p.length : Nat) : Int))) with q_3 | q_3
  · rw [q_3, cond_true] at hb1
    obtain ⟨x_4, i1, hb1⟩ := bind_some hb1
    obtain ⟨i1z, i1⟩ := getI_some i1
    have i1x := idxI (f := cPer) i1
    obtain ⟨g2, hb1⟩ := grd_some hb1
    replace g2 := of_decide_eq_true g2
    obtain rfl := Option.some.inj hb1
    repeat' (first | refine p_ rfl rfl rfl rfl rfl ?_ | refine st_nil ?_ | refine x_ rfl rfl rfl rfl rfl rfl rfl rfl ?_ | refine l_ rfl rfl rfl rfl ?_ | refine s_ rfl rfl rfl ?_ | refine t_ rfl rfl rfl rfl ?_ | refine k_ rfl rfl rfl ?_ | refine k0_ rfl rfl ?_ | refine c_ rfl rfl rfl rfl ?_ | refine pick_t rfl rfl rfl rfl rfl rfl rfl ?_ | refine pick_f rfl rfl rfl rfl rfl rfl rfl ?_ | refine aw_seq ?_ | refine aw_region tab_ok _ rfl ?_ | refine aw_drawn2 tabS_ok _ rfl mixed (by decide +kernel) ?_ | refine aw_condT rfl ?_ | refine aw_condF rfl ?_ | refine aw_block ?_ | refine aw_exit ?_ | refine aw_ret ?_ | refine aw_skip ?_ | rw [List.length_map] | rw [mn_norm] | rw [mx_norm])
    exact ⟨_, rfl, fits_mk ⟨rfl, rfl, (by simp only [List.map_append, List.map_cons, List.map_nil, List.nil_append] <;> rfl), rfl, trivial⟩ [] (by simp only [List.length_append, List.length_cons, List.length_nil, Nat.zero_add, List.map_append, List.map_cons, List.map_nil] <;> rfl) ⟨trivial, trivial, by show 0 < 1; omega, trivial, trivial⟩ ⟨trivial, trivial⟩⟩
  · rw [q_3, cond_false] at hb1
    obtain rfl := Option.some.inj hb1
    have hx1 : gDuring_K1 (.inl (out_1, i_2)) = some _ := hk1
    unfold gDuring_K1 at hx1
    dsimp only at hx1
    obtain rfl := Option.some.inj hx1
    exact go_
def gMerged22_B1 (a_a : (List Fct)) (a_b : (List Fct)) : ((List Fct) × Int × Int) → Option (Step ((List Fct) × Int × Int) ((List Fct))) := fun s => match s with
  | (out_1, i_2, k_3) => bif (decide (i_2 < ((a_a.length : Nat) : Int))) then
    bif (decide (i_2 = ((a_a.length : Nat) : Int))) then
      (getI a_b k_3).bind fun x_6 => bif (decide (out_1.length + 1 ≤ 3518437208883)) then (some (.next ((out_1 ++ [x_6]), i_2, (IntKind.i64.wrap (k_3 + (1 : Int)))))) else none
    else
      bif (decide (k_3 < ((a_b.length : Nat) : Int))) then
        (getI a_b k_3).bind fun x_8 => (getI a_a i_2).bind fun x_9 => (gCmp8 x_8.row x_9.row).bind fun r_10 => bif (decide (r_10 < (0 : Int))) then
          bif (decide (out_1.length + 1 ≤ 3518437208883)) then (some (.next ((out_1 ++ [x_8]), i_2, (IntKind.i64.wrap (k_3 + (1 : Int)))))) else none
        else
          bif (decide (out_1.length + 1 ≤ 3518437208883)) then (some (.next ((out_1 ++ [x_9]), (IntKind.i64.wrap (i_2 + (1 : Int))), k_3))) else none
      else
        (getI a_a i_2).bind fun x_12 => bif (decide (out_1.length + 1 ≤ 3518437208883)) then (some (.next ((out_1 ++ [x_12]), (IntKind.i64.wrap (i_2 + (1 : Int))), k_3))) else none
  else
    bif (decide (k_3 < ((a_b.length : Nat) : Int))) then
      bif (decide (i_2 = ((a_a.length : Nat) : Int))) then
        (getI a_b k_3).bind fun x_15 => bif (decide (out_1.length + 1 ≤ 3518437208883)) then (some (.next ((out_1 ++ [x_15]), i_2, (IntKind.i64.wrap (k_3 + (1 : Int)))))) else none
      else
        (getI a_b k_3).bind fun x_16 => (getI a_a i_2).bind fun x_17 => (gCmp8 x_16.row x_17.row).bind fun r_18 => bif (decide (r_18 < (0 : Int))) then
          bif (decide (out_1.length + 1 ≤ 3518437208883)) then (some (.next ((out_1 ++ [x_16]), i_2, (IntKind.i64.wrap (k_3 + (1 : Int)))))) else none
        else
          bif (decide (out_1.length + 1 ≤ 3518437208883)) then (some (.next ((out_1 ++ [x_17]), (IntKind.i64.wrap (i_2 + (1 : Int))), k_3))) else none
    else
      some (.exit (out_1, i_2, k_3))
def gMerged22_K1 : Sum ((List Fct) × Int × Int) ((List Fct)) → Option (((List Fct)))
  | .inl (out_1, i_2, k_3) => some out_1
  | .inr q => some q
def gMerged22 (a_a : (List Fct)) (a_b : (List Fct)) : Option ((List Fct)) := (loopM (gMerged22_B1 a_a a_b) fuel ([], (0 : Int), (0 : Int))).bind (gMerged22_K1)
theorem gMerged22_ok {a_a : (List Fct)} {a_b : (List Fct)} {r : (List Fct)} (H : gMerged22 a_a a_b = some r) : Pure Tryz.prog 144 [.one (.lst (a_a.map cFct)), .one (.lst (a_b.map cFct))] (.val (.one (.lst (r.map cFct)))) := by
  unfold gMerged22 at H
  refine pure_of_aw tab_ok Tryz.func144 rfl rfl Tryz.ntmps144 (by simp) ?_
  simp only [argT, PV.av, List.map_cons, List.map_nil]
  repeat' (first | refine p_ rfl rfl rfl rfl rfl ?_ | refine st_nil ?_ | refine x_ rfl rfl rfl rfl rfl rfl rfl rfl ?_ | refine l_ rfl rfl rfl rfl ?_ | refine s_ rfl rfl rfl ?_ | refine t_ rfl rfl rfl rfl ?_ | refine k_ rfl rfl rfl ?_ | refine k0_ rfl rfl ?_ | refine c_ rfl rfl rfl rfl ?_ | refine pick_t rfl rfl rfl rfl rfl rfl rfl ?_ | refine pick_f rfl rfl rfl rfl rfl rfl rfl ?_ | refine aw_seq ?_ | refine aw_region tab_ok _ rfl ?_ | refine aw_drawn2 tabS_ok _ rfl mixed (by decide +kernel) ?_ | refine aw_condT rfl ?_ | refine aw_condF rfl ?_ | refine aw_block ?_ | refine aw_exit ?_ | refine aw_ret ?_ | refine aw_skip ?_ | rw [List.length_map] | rw [mn_norm] | rw [mx_norm])
  refine aw_tok 5 3 rfl ?_
  refine aw_loopM (fun s : (List Fct) × Int × Int => match s with | (out_1, i_2, k_3) => [(0, .one (.c (.lst (a_a.map cFct)))), (1, .one (.c (.lst (a_b.map cFct)))), (5, .one (.own (out_1.map cFct) 0)), (6, .one (.c (.int .i64 i_2))), (7, .one (.c (.int .i64 k_3)))]) (fun s => match s with | (out_1, i_2, k_3) => [.spare out_1.length 3]) H (fun _ => Nat.zero_le _)
    (fits_mk ⟨rfl, rfl, rfl, rfl, rfl, trivial⟩ [] rfl ⟨trivial, trivial, by show 0 < 1; omega, trivial, trivial, trivial⟩ ⟨trivial, trivial⟩) ?_
  rintro ⟨out_1, i_2, k_3⟩ st1 hb1 hk1
  unfold gMerged22_B1 at hb1
  dsimp only at hb1 ⊢
  rcases Bool.eq_false_or_eq_true (decide (i_2 < ((a_a.length : Nat) : Int))) with q_4 | q_4
  · rw [q_4, cond_true] at hb1
    rcases Bool.eq_false_or_eq_true (decide (i_2 = ((a_a.length : Nat) : Int))) with q_5 | q_5
    · rw [q_5, cond_true] at hb1
      obtain ⟨x_6, i1, hb1⟩ := bind_some hb1
      obtain ⟨i1z, i1⟩ := getI_some i1
      have i1x := idxI (f := cFct) i1
      obtain ⟨g2, hb1⟩ := grd_some hb1
      replace g2 := of_decide_eq_true g2
      obtain rfl := Option.some.inj hb1
      repeat' (first | refine p_ rfl rfl rfl rfl rfl ?_ | refine st_nil ?_ | refine x_ rfl rfl rfl rfl rfl rfl rfl rfl ?_ | refine l_ rfl rfl rfl rfl ?_ | refine s_ rfl rfl rfl ?_ | refine t_ rfl rfl rfl rfl ?_ | refine k_ rfl rfl rfl ?_ | refine k0_ rfl rfl ?_ | refine c_ rfl rfl rfl rfl ?_ | refine pick_t rfl rfl rfl rfl rfl rfl rfl ?_ | refine pick_f rfl rfl rfl rfl rfl rfl rfl ?_ | refine aw_seq ?_ | refine aw_region tab_ok _ rfl ?_ | refine aw_drawn2 tabS_ok _ rfl mixed (by decide +kernel) ?_ | refine aw_condT rfl ?_ | refine aw_condF rfl ?_ | refine aw_block ?_ | refine aw_exit ?_ | refine aw_ret ?_ | refine aw_skip ?_ | rw [List.length_map] | rw [mn_norm] | rw [mx_norm])
      exact ⟨_, rfl, fits_mk ⟨rfl, rfl, (by simp only [List.map_append, List.map_cons, List.map_nil, List.nil_append] <;> rfl), rfl, rfl, trivial⟩ [] (by simp only [List.length_append, List.length_cons, List.length_nil, Nat.zero_add, List.map_append, List.map_cons, List.map_nil] <;> rfl) ⟨trivial, trivial, by show 0 < 1; omega, trivial, trivial, trivial⟩ ⟨trivial, trivial⟩⟩
    · rw [q_5, cond_false] at hb1
      rcases Bool.eq_false_or_eq_true (decide (k_3 < ((a_b.length : Nat) : Int))) with q_7 | q_7
      · rw [q_7, cond_true] at hb1
        obtain ⟨x_8, i3, hb1⟩ := bind_some hb1
        obtain ⟨i3z, i3⟩ := getI_some i3
        have i3x := idxI (f := cFct) i3
        obtain ⟨x_9, i4, hb1⟩ := bind_some hb1
        obtain ⟨i4z, i4⟩ := getI_some i4
        have i4x := idxI (f := cFct) i4
        obtain ⟨r_10, c5, hb1⟩ := bind_some hb1
        replace c5 := gCmp8_ok c5
        try simp only [List.map_append, List.map_cons, List.map_nil, List.nil_append, tE_eq] at c5
        rcases Bool.eq_false_or_eq_true (decide (r_10 < (0 : Int))) with q_11 | q_11
        · rw [q_11, cond_true] at hb1
          obtain ⟨g6, hb1⟩ := grd_some hb1
          replace g6 := of_decide_eq_true g6
          obtain rfl := Option.some.inj hb1
          repeat' (first | refine p_ rfl rfl rfl rfl rfl ?_ | refine st_nil ?_ | refine x_ rfl rfl rfl rfl rfl rfl rfl rfl ?_ | refine l_ rfl rfl rfl rfl ?_ | refine s_ rfl rfl rfl ?_ | refine t_ rfl rfl rfl rfl ?_ | refine k_ rfl rfl rfl ?_ | refine k0_ rfl rfl ?_ | refine c_ rfl rfl rfl rfl ?_ | refine pick_t rfl rfl rfl rfl rfl rfl rfl ?_ | refine pick_f rfl rfl rfl rfl rfl rfl rfl ?_ | refine aw_seq ?_ | refine aw_region tab_ok _ rfl ?_ | refine aw_drawn2 tabS_ok _ rfl mixed (by decide +kernel) ?_ | refine aw_condT rfl ?_ | refine aw_condF rfl ?_ | refine aw_block ?_ | refine aw_exit ?_ | refine aw_ret ?_ | refine aw_skip ?_ | rw [List.length_map] | rw [mn_norm] | rw [mx_norm])
          exact ⟨_, rfl, fits_mk ⟨rfl, rfl, (by simp only [List.map_append, List.map_cons, List.map_nil, List.nil_append] <;> rfl), rfl, rfl, trivial⟩ [] (by simp only [List.length_append, List.length_cons, List.length_nil, Nat.zero_add, List.map_append, List.map_cons, List.map_nil] <;> rfl) ⟨trivial, trivial, by show 0 < 1; omega, trivial, trivial, trivial⟩ ⟨trivial, trivial⟩⟩
        · rw [q_11, cond_false] at hb1
          obtain ⟨g7, hb1⟩ := grd_some hb1
          replace g7 := of_decide_eq_true g7
          obtain rfl := Option.some.inj hb1
          repeat' (first | refine p_ rfl rfl rfl rfl rfl ?_ | refine st_nil ?_ | refine x_ rfl rfl rfl rfl rfl rfl rfl rfl ?_ | refine l_ rfl rfl rfl rfl ?_ | refine s_ rfl rfl rfl ?_ | refine t_ rfl rfl rfl rfl ?_ | refine k_ rfl rfl rfl ?_ | refine k0_ rfl rfl ?_ | refine c_ rfl rfl rfl rfl ?_ | refine pick_t rfl rfl rfl rfl rfl rfl rfl ?_ | refine pick_f rfl rfl rfl rfl rfl rfl rfl ?_ | refine aw_seq ?_ | refine aw_region tab_ok _ rfl ?_ | refine aw_drawn2 tabS_ok _ rfl mixed (by decide +kernel) ?_ | refine aw_condT rfl ?_ | refine aw_condF rfl ?_ | refine aw_block ?_ | refine aw_exit ?_ | refine aw_ret ?_ | refine aw_skip ?_ | rw [List.length_map] | rw [mn_norm] | rw [mx_norm])
          exact ⟨_, rfl, fits_mk ⟨rfl, rfl, (by simp only [List.map_append, List.map_cons, List.map_nil, List.nil_append] <;> rfl), rfl, rfl, trivial⟩ [] (by simp only [List.length_append, List.length_cons, List.length_nil, Nat.zero_add, List.map_append, List.map_cons, List.map_nil] <;> rfl) ⟨trivial, trivial, by show 0 < 1; omega, trivial, trivial, trivial⟩ ⟨trivial, trivial⟩⟩
      · rw [q_7, cond_false] at hb1
        obtain ⟨x_12, i8, hb1⟩ := bind_some hb1
        obtain ⟨i8z, i8⟩ := getI_some i8
        have i8x := idxI (f := cFct) i8
        obtain ⟨g9, hb1⟩ := grd_some hb1
        replace g9 := of_decide_eq_true g9
        obtain rfl := Option.some.inj hb1
        repeat' (first | refine p_ rfl rfl rfl rfl rfl ?_ | refine st_nil ?_ | refine x_ rfl rfl rfl rfl rfl rfl rfl rfl ?_ | refine l_ rfl rfl rfl rfl ?_ | refine s_ rfl rfl rfl ?_ | refine t_ rfl rfl rfl rfl ?_ | refine k_ rfl rfl rfl ?_ | refine k0_ rfl rfl ?_ | refine c_ rfl rfl rfl rfl ?_ | refine pick_t rfl rfl rfl rfl rfl rfl rfl ?_ | refine pick_f rfl rfl rfl rfl rfl rfl rfl ?_ | refine aw_seq ?_ | refine aw_region tab_ok _ rfl ?_ | refine aw_drawn2 tabS_ok _ rfl mixed (by decide +kernel) ?_ | refine aw_condT rfl ?_ | refine aw_condF rfl ?_ | refine aw_block ?_ | refine aw_exit ?_ | refine aw_ret ?_ | refine aw_skip ?_ | rw [List.length_map] | rw [mn_norm] | rw [mx_norm])
        exact ⟨_, rfl, fits_mk ⟨rfl, rfl, (by simp only [List.map_append, List.map_cons, List.map_nil, List.nil_append] <;> rfl), rfl, rfl, trivial⟩ [] (by simp only [List.length_append, List.length_cons, List.length_nil, Nat.zero_add, List.map_append, List.map_cons, List.map_nil] <;> rfl) ⟨trivial, trivial, by show 0 < 1; omega, trivial, trivial, trivial⟩ ⟨trivial, trivial⟩⟩
  · rw [q_4, cond_false] at hb1
    rcases Bool.eq_false_or_eq_true (decide (k_3 < ((a_b.length : Nat) : Int))) with q_13 | q_13
    · rw [q_13, cond_true] at hb1
      rcases Bool.eq_false_or_eq_true (decide (i_2 = ((a_a.length : Nat) : Int))) with q_14 | q_14
      · rw [q_14, cond_true] at hb1
        obtain ⟨x_15, i10, hb1⟩ := bind_some hb1
        obtain ⟨i10z, i10⟩ := getI_some i10
        have i10x := idxI (f := cFct) i10
        obtain ⟨g11, hb1⟩ := grd_some hb1
        replace g11 := of_decide_eq_true g11
        obtain rfl := Option.some.inj hb1
        repeat' (first | refine p_ rfl rfl rfl rfl rfl ?_ | refine st_nil ?_ | refine x_ rfl rfl rfl rfl rfl rfl rfl rfl ?_ | refine l_ rfl rfl rfl rfl ?_ | refine s_ rfl rfl rfl ?_ | refine t_ rfl rfl rfl rfl ?_ | refine k_ rfl rfl rfl ?_ | refine k0_ rfl rfl ?_ | refine c_ rfl rfl rfl rfl ?_ | refine pick_t rfl rfl rfl rfl rfl rfl rfl ?_ | refine pick_f rfl rfl rfl rfl rfl rfl rfl ?_ | refine aw_seq ?_ | refine aw_region tab_ok _ rfl ?_ | refine aw_drawn2 tabS_ok _ rfl mixed (by decide +kernel) ?_ | refine aw_condT rfl ?_ | refine aw_condF rfl ?_ | refine aw_block ?_ | refine aw_exit ?_ | refine aw_ret ?_ | refine aw_skip ?_ | rw [List.length_map] | rw [mn_norm] | rw [mx_norm])
        exact ⟨_, rfl, fits_mk ⟨rfl, rfl, (by simp only [List.map_append, List.map_cons, List.map_nil, List.nil_append] <;> rfl), rfl, rfl, trivial⟩ [] (by simp only [List.length_append, List.length_cons, List.length_nil, Nat.zero_add, List.map_append, List.map_cons, List.map_nil] <;> rfl) ⟨trivial, trivial, by show 0 < 1; omega, trivial, trivial, trivial⟩ ⟨trivial, trivial⟩⟩
      · rw [q_14, cond_false] at hb1
        obtain ⟨x_16, i12, hb1⟩ := bind_some hb1
        obtain ⟨i12z, i12⟩ := getI_some i12
        have i12x := idxI (f := cFct) i12
        obtain ⟨x_17, i13, hb1⟩ := bind_some hb1
        obtain ⟨i13z, i13⟩ := getI_some i13
        have i13x := idxI (f := cFct) i13
        obtain ⟨r_18, c14, hb1⟩ := bind_some hb1
        replace c14 := gCmp8_ok c14
        try simp only [List.map_append, List.map_cons, List.map_nil, List.nil_append, tE_eq] at c14
        rcases Bool.eq_false_or_eq_true (decide (r_18 < (0 : Int))) with q_19 | q_19
        · rw [q_19, cond_true] at hb1
          obtain ⟨g15, hb1⟩ := grd_some hb1
          replace g15 := of_decide_eq_true g15
          obtain rfl := Option.some.inj hb1
          repeat' (first | refine p_ rfl rfl rfl rfl rfl ?_ | refine st_nil ?_ | refine x_ rfl rfl rfl rfl rfl rfl rfl rfl ?_ | refine l_ rfl rfl rfl rfl ?_ | refine s_ rfl rfl rfl ?_ | refine t_ rfl rfl rfl rfl ?_ | refine k_ rfl rfl rfl ?_ | refine k0_ rfl rfl ?_ | refine c_ rfl rfl rfl rfl ?_ | refine pick_t rfl rfl rfl rfl rfl rfl rfl ?_ | refine pick_f rfl rfl rfl rfl rfl rfl rfl ?_ | refine aw_seq ?_ | refine aw_region tab_ok _ rfl ?_ | refine aw_drawn2 tabS_ok _ rfl mixed (by decide +kernel) ?_ | refine aw_condT rfl ?_ | refine aw_condF rfl ?_ | refine aw_block ?_ | refine aw_exit ?_ | refine aw_ret ?_ | refine aw_skip ?_ | rw [List.length_map] | rw [mn_norm] | rw [mx_norm])
          exact ⟨_, rfl, fits_mk ⟨rfl, rfl, (by simp only [List.map_append, List.map_cons, List.map_nil, List.nil_append] <;> rfl), rfl, rfl, trivial⟩ [] (by simp only [List.length_append, List.length_cons, List.length_nil, Nat.zero_add, List.map_append, List.map_cons, List.map_nil] <;> rfl) ⟨trivial, trivial, by show 0 < 1; omega, trivial, trivial, trivial⟩ ⟨trivial, trivial⟩⟩
        · rw [q_19, cond_false] at hb1
          obtain ⟨g16, hb1⟩ := grd_some hb1
          replace g16 := of_decide_eq_true g16
          obtain rfl := Option.some.inj hb1
          repeat' (first | refine p_ rfl rfl rfl rfl rfl ?_ | refine st_nil ?_ | refine x_ rfl rfl rfl rfl rfl rfl rfl rfl ?_ | refine l_ rfl rfl rfl rfl ?_ | refine s_ rfl rfl rfl ?_ | refine t_ rfl rfl rfl rfl ?_ | refine k_ rfl rfl rfl ?_ | refine k0_ rfl rfl ?_ | refine c_ rfl rfl rfl rfl ?_ | refine pick_t rfl rfl rfl rfl rfl rfl rfl ?_ | refine pick_f rfl rfl rfl rfl rfl rfl rfl ?_ | refine aw_seq ?_ | refine aw_region tab_ok _ rfl ?_ | refine aw_drawn2 tabS_ok _ rfl mixed (by decide +kernel) ?_ | refine aw_condT rfl ?_ | refine aw_condF rfl ?_ | refine aw_block ?_ | refine aw_exit ?_ | refine aw_ret ?_ | refine aw_skip ?_ | rw [List.length_map] | rw [mn_norm] | rw [mx_norm])
          exact ⟨_, rfl, fits_mk ⟨rfl, rfl, (by simp only [List.map_append, List.map_cons, List.map_nil, List.nil_append] <;> rfl), rfl, rfl, trivial⟩ [] (by simp only [List.length_append, List.length_cons, List.length_nil, Nat.zero_add, List.map_append, List.map_cons, List.map_nil] <;> rfl) ⟨trivial, trivial, by show 0 < 1; omega, trivial, trivial, trivial⟩ ⟨trivial, trivial⟩⟩
    · rw [q_13, cond_false] at hb1
      obtain rfl := Option.some.inj hb1
      have hx1 : gMerged22_K1 (.inl (out_1, i_2, k_3)) = some _ := hk1
      unfold gMerged22_K1 at hx1
      dsimp only at hx1
      obtain rfl := Option.some.inj hx1
      exact go_
def gOrderedB (rec : List Fct → Option (List Fct)) (a_l : (List Fct)) : Option ((List Fct)) := bif (decide (((a_l.length : Nat) : Int) < (2 : Int))) then
  some a_l
 else
  bif (decide ((2 : Int) ≠ 0)) then ((subI a_l (0 : Int) (IntKind.i64.wrap (((a_l.length : Nat) : Int).tdiv (2 : Int)))).bind fun s_2 => (rec s_2).bind fun r_3 => (subI a_l (IntKind.i64.wrap (((a_l.length : Nat) : Int).tdiv (2 : Int))) ((a_l.length : Nat) : Int)).bind fun s_4 => (rec s_4).bind fun r_5 => (gMerged22 r_3 r_5).bind fun r_6 => some r_6) else none
theorem gOrderedB_ok {rec : List Fct → Option (List Fct)}  (hrec : ∀ {x : List Fct} {r : List Fct}, rec x = some r → Pure Tryz.prog 97 [.one (.lst (x.map cFct))] (.val (.one (.lst (r.map cFct))))) {a_l : (List Fct)} {r : (List Fct)} (H : gOrderedB rec a_l = some r) : Pure Tryz.prog 97 [.one (.lst (a_l.map cFct))] (.val (.one (.lst (r.map cFct)))) := by
  unfold gOrderedB at H
  refine pure_of_aw tab_ok Tryz.func97 rfl rfl Tryz.ntmps97 (by simp) ?_
  simp only [argT, PV.av, List.map_cons, List.map_nil]
  rcases Bool.eq_false_or_eq_true (decide (((a_l.length : Nat) : Int) < (2 : Int))) with q_1 | q_1
  · rw [q_1, cond_true] at H
    obtain rfl := Option.some.inj H
    exact go_
  · rw [q_1, cond_false] at H
    obtain ⟨g1, H⟩ := grd_some H
    replace g1 := of_decide_eq_true g1
    obtain ⟨s_2, u2, H⟩ := bind_some H
    obtain ⟨⟨u2a, u2b, u2c⟩, u2⟩ := subI_some u2
    have u2x := subE (f := cFct) u2
    obtain ⟨r_3, c3, H⟩ := bind_some H
    replace c3 := hrec c3
    try simp only [List.map_append, List.map_cons, List.map_nil, List.nil_append, tE_eq] at c3
    obtain ⟨s_4, u4, H⟩ := bind_some H
    obtain ⟨⟨u4a, u4b, u4c⟩, u4⟩ := subI_some u4
    have u4x := subE (f := cFct) u4
    obtain ⟨r_5, c5, H⟩ := bind_some H
    replace c5 := hrec c5
    try simp only [List.map_append, List.map_cons, List.map_nil, List.nil_append, tE_eq] at c5
    obtain ⟨r_6, c6, H⟩ := bind_some H
    replace c6 := gMerged22_ok c6
    try simp only [List.map_append, List.map_cons, List.map_nil, List.nil_append, tE_eq] at c6
    obtain rfl := Option.some.inj H
    repeat' (first | refine p_ rfl rfl rfl rfl rfl ?_ | refine st_nil ?_ | refine x_ rfl rfl rfl rfl rfl rfl rfl rfl ?_ | refine l_ rfl rfl rfl rfl ?_ | refine s_ rfl rfl rfl ?_ | refine t_ rfl rfl rfl rfl ?_ | refine k_ rfl rfl rfl ?_ | refine k0_ rfl rfl ?_ | refine c_ rfl rfl rfl rfl ?_ | refine pick_t rfl rfl rfl rfl rfl rfl rfl ?_ | refine pick_f rfl rfl rfl rfl rfl rfl rfl ?_ | refine aw_seq ?_ | refine aw_region tab_ok _ rfl ?_ | refine aw_drawn2 tabS_ok _ rfl mixed (by decide +kernel) ?_ | refine aw_condT rfl ?_ | refine aw_condF rfl ?_ | refine aw_block ?_ | refine aw_exit ?_ | refine aw_ret ?_ | refine aw_skip ?_ | rw [List.length_map] | rw [mn_norm] | rw [mx_norm] | rw [u2x] | rw [u4x] | rw [show ((0 : Nat) : Int) = 0 from rfl])
    refine end_ret (res_of rfl ?_ ?_)
    · repeat' (first | exact trivial | rfl | exact Nat.le_of_ble_eq_true rfl | omega | apply And.intro)
    · first | rfl | (simp only [List.map_append, List.map_cons, List.map_nil, List.nil_append] <;> rfl)
def gOrdered : Nat → List Fct → Option (List Fct)
  | 0, _ => none
  | n + 1, a => gOrderedB (gOrdered n) a
theorem gOrdered_ok : ∀ (n : Nat) {x : List Fct} {r : List Fct}, gOrdered n x = some r → Pure Tryz.prog 97 [.one (.lst (x.map cFct))] (.val (.one (.lst (r.map cFct))))
  | 0, _, _, h => nomatch h
  | n + 1, _, _, h => gOrderedB_ok (gOrdered_ok n) h
def gGroups22_B7 (s_11 : (List Fct)) (r_12 : (List (List Val))) : ((List SGroup) × Int) → Option (Step ((List SGroup) × Int) ((List SGroup))) := fun s => match s with
  | (out_13, n_14) => bif (decide (n_14 < ((r_12.length : Nat) : Int))) then
    (getI r_12 n_14).bind fun x_16 => (gCounts22 s_11 x_16).bind fun r_17 => bif (decide (out_13.length + 1 ≤ 2932031007402)) then (some (.next ((out_13 ++ [(⟨x_16, r_17⟩ : SGroup)]), (IntKind.i64.wrap (n_14 + (1 : Int)))))) else none
  else
    some (.exit (out_13, n_14))
def gGroups22_K7 (k_5 : Int) : Sum ((List SGroup) × Int) ((List SGroup)) → Option (Step ((List SGroup) × Int) ((List SGroup)))
  | .inl (out_13, n_14) => some (.next (out_13, k_5))
  | .inr q => some (.ret q)
def gGroups22_B6 (r_1 : (List Fct)) (i_3 : Int) : (Int) → Option (Step (Int) ((List SGroup))) := fun s => match s with
  | k_5 => bif (decide (k_5 < ((r_1.length : Nat) : Int))) then
    (getI r_1 k_5).bind fun x_7 => (getI r_1 i_3).bind fun x_8 => (gCmp8 x_7.row x_8.row).bind fun r_9 => bif (decide (r_9 = (0 : Int))) then
      some (.next (IntKind.i64.wrap (k_5 + (1 : Int))))
    else
      some (.exit k_5)
  else
    some (.exit k_5)
def gGroups22_K6 (r_1 : (List Fct)) (out_2 : (List SGroup)) (i_3 : Int) : Sum (Int) ((List SGroup)) → Option (Step ((List SGroup) × Int) ((List SGroup)))
  | .inl k_5 => (subI r_1 i_3 k_5).bind fun s_11 => (gRows22 s_11).bind fun r_12 => (loopM (gGroups22_B7 s_11 r_12) fuel (out_2, (0 : Int))).bind (gGroups22_K7 k_5)
  | .inr q => some (.ret q)
def gGroups22_B5 (r_1 : (List Fct)) : ((List SGroup) × Int) → Option (Step ((List SGroup) × Int) ((List SGroup))) := fun s => match s with
  | (out_2, i_3) => bif (decide (i_3 < ((r_1.length : Nat) : Int))) then
    (loopM (gGroups22_B6 r_1 i_3) fuel i_3).bind (gGroups22_K6 r_1 out_2 i_3)
  else
    some (.exit (out_2, i_3))
def gGroups22_K5 : Sum ((List SGroup) × Int) ((List SGroup)) → Option (((List SGroup)))
  | .inl (out_2, i_3) => some out_2
  | .inr q => some q
def gGroups22 (a_l : (List Fct)) : Option ((List SGroup)) := (gOrdered 640 a_l).bind fun r_1 => (loopM (gGroups22_B5 r_1) fuel ([], (0 : Int))).bind (gGroups22_K5)
theorem gGroups22_ok {a_l : (List Fct)} {r : (List SGroup)} (H : gGroups22 a_l = some r) : Pure Tryz.prog 62 [.one (.lst (a_l.map cFct))] (.val (.one (.lst (r.map cSGroup)))) := by
  unfold gGroups22 at H
  refine pure_of_aw tab_ok Tryz.func62 rfl rfl Tryz.ntmps62 (by simp) ?_
  simp only [argT, PV.av, List.map_cons, List.map_nil]
  obtain ⟨r_1, c1, H⟩ := bind_some H
  replace c1 := gOrdered_ok 640 c1
  try simp only [List.map_append, List.map_cons, List.map_nil, List.nil_append, tE_eq] at c1
  repeat' (first | refine p_ rfl rfl rfl rfl rfl ?_ | refine st_nil ?_ | refine x_ rfl rfl rfl rfl rfl rfl rfl rfl ?_ | refine l_ rfl rfl rfl rfl ?_ | refine s_ rfl rfl rfl ?_ | refine t_ rfl rfl rfl rfl ?_ | refine k_ rfl rfl rfl ?_ | refine k0_ rfl rfl ?_ | refine c_ rfl rfl rfl rfl ?_ | refine pick_t rfl rfl rfl rfl rfl rfl rfl ?_ | refine pick_f rfl rfl rfl rfl rfl rfl rfl ?_ | refine aw_seq ?_ | refine aw_region tab_ok _ rfl ?_ | refine aw_drawn2 tabS_ok _ rfl mixed (by decide +kernel) ?_ | refine aw_condT rfl ?_ | refine aw_condF rfl ?_ | refine aw_block ?_ | refine aw_exit ?_ | refine aw_ret ?_ | refine aw_skip ?_ | rw [List.length_map] | rw [mn_norm] | rw [mx_norm])
  refine aw_tok 4 2 rfl ?_
  refine aw_loopM (fun s : (List SGroup) × Int => match s with | (out_2, i_3) => [(3, .one (.c (.lst (r_1.map cFct)))), (4, .one (.own (out_2.map cSGroup) 0)), (5, .one (.c (.int .i64 i_3)))]) (fun s => match s with | (out_2, i_3) => [.spare out_2.length 2]) H (fun _ => Nat.zero_le _)
    (fits_mk ⟨rfl, rfl, rfl, trivial⟩ [] rfl ⟨trivial, by show 0 < 1; omega, trivial, trivial⟩ ⟨trivial, trivial⟩) ?_
  rintro ⟨out_2, i_3⟩ st5 hb5 hk5
  unfold gGroups22_B5 at hb5
  dsimp only at hb5 ⊢
  rcases Bool.eq_false_or_eq_true (decide (i_3 < ((r_1.length : Nat) : Int))) with q_4 | q_4
  · rw [q_4, cond_true] at hb5
    repeat' (first | refine p_ rfl rfl rfl rfl rfl ?_ | refine st_nil ?_ | refine x_ rfl rfl rfl rfl rfl rfl rfl rfl ?_ | refine l_ rfl rfl rfl rfl ?_ | refine s_ rfl rfl rfl ?_ | refine t_ rfl rfl rfl rfl ?_ | refine k_ rfl rfl rfl ?_ | refine k0_ rfl rfl ?_ | refine c_ rfl rfl rfl rfl ?_ | refine pick_t rfl rfl rfl rfl rfl rfl rfl ?_ | refine pick_f rfl rfl rfl rfl rfl rfl rfl ?_ | refine aw_seq ?_ | refine aw_region tab_ok _ rfl ?_ | refine aw_drawn2 tabS_ok _ rfl mixed (by decide +kernel) ?_ | refine aw_condT rfl ?_ | refine aw_condF rfl ?_ | refine aw_block ?_ | refine aw_exit ?_ | refine aw_ret ?_ | refine aw_skip ?_ | rw [List.length_map] | rw [mn_norm] | rw [mx_norm])
    refine aw_loopM (fun s : Int => match s with | k_5 => [(3, .one (.c (.lst (r_1.map cFct)))), (4, .one (.own (out_2.map cSGroup) 0)), (5, .one (.c (.int .i64 i_3))), (6, .one (.c (.int .i64 k_5)))]) (fun s => match s with | k_5 => [.spare out_2.length 2]) hb5 (fun _ => Nat.zero_le _)
      (fits_mk ⟨rfl, rfl, rfl, rfl, trivial⟩ [] rfl ⟨trivial, by show 0 < 1; omega, trivial, trivial, trivial⟩ ⟨trivial, trivial⟩) ?_
    rintro k_5 st6 hb6 hk6
    unfold gGroups22_B6 at hb6
    dsimp only at hb6 ⊢
    rcases Bool.eq_false_or_eq_true (decide (k_5 < ((r_1.length : Nat) : Int))) with q_6 | q_6
    · rw [q_6, cond_true] at hb6
      obtain ⟨x_7, i2, hb6⟩ := bind_some hb6
      obtain ⟨i2z, i2⟩ := getI_some i2
      have i2x := idxI (f := cFct) i2
      obtain ⟨x_8, i3, hb6⟩ := bind_some hb6
      obtain ⟨i3z, i3⟩ := getI_some i3
      have i3x := idxI (f := cFct) i3
      obtain ⟨r_9, c4, hb6⟩ := bind_some hb6
      replace c4 := gCmp8_ok c4
      try simp only [List.map_append, List.map_cons, List.map_nil, List.nil_append, tE_eq] at c4
      rcases Bool.eq_false_or_eq_true (decide (r_9 = (0 : Int))) with q_10 | q_10
      · rw [q_10, cond_true] at hb6
        obtain rfl := Option.some.inj hb6
        repeat' (first | refine p_ rfl rfl rfl rfl rfl ?_ | refine st_nil ?_ | refine x_ rfl rfl rfl rfl rfl rfl rfl rfl ?_ | refine l_ rfl rfl rfl rfl ?_ | refine s_ rfl rfl rfl ?_ | refine t_ rfl rfl rfl rfl ?_ | refine k_ rfl rfl rfl ?_ | refine k0_ rfl rfl ?_ | refine c_ rfl rfl rfl rfl ?_ | refine pick_t rfl rfl rfl rfl rfl rfl rfl ?_ | refine pick_f rfl rfl rfl rfl rfl rfl rfl ?_ | refine aw_seq ?_ | refine aw_region tab_ok _ rfl ?_ | refine aw_drawn2 tabS_ok _ rfl mixed (by decide +kernel) ?_ | refine aw_condT rfl ?_ | refine aw_condF rfl ?_ | refine aw_block ?_ | refine aw_exit ?_ | refine aw_ret ?_ | refine aw_skip ?_ | rw [List.length_map] | rw [mn_norm] | rw [mx_norm])
        exact ⟨_, rfl, fits_mk ⟨rfl, rfl, rfl, rfl, trivial⟩ [] rfl ⟨trivial, by show 0 < 1; omega, trivial, trivial, trivial⟩ ⟨trivial, trivial⟩⟩
      · rw [q_10, cond_false] at hb6
        obtain rfl := Option.some.inj hb6
        have hx6 : gGroups22_K6 r_1 out_2 i_3 (.inl k_5) = some _ := hk6
        unfold gGroups22_K6 at hx6
        dsimp only at hx6
        obtain ⟨s_11, u5, hx6⟩ := bind_some hx6
        obtain ⟨⟨u5a, u5b, u5c⟩, u5⟩ := subI_some u5
        have u5x := subE (f := cFct) u5
        obtain ⟨r_12, c6, hx6⟩ := bind_some hx6
        replace c6 := gRows22_ok c6
        try simp only [List.map_append, List.map_cons, List.map_nil, List.nil_append, tE_eq] at c6
        repeat' (first | refine p_ rfl rfl rfl rfl rfl ?_ | refine st_nil ?_ | refine x_ rfl rfl rfl rfl rfl rfl rfl rfl ?_ | refine l_ rfl rfl rfl rfl ?_ | refine s_ rfl rfl rfl ?_ | refine t_ rfl rfl rfl rfl ?_ | refine k_ rfl rfl rfl ?_ | refine k0_ rfl rfl ?_ | refine c_ rfl rfl rfl rfl ?_ | refine pick_t rfl rfl rfl rfl rfl rfl rfl ?_ | refine pick_f rfl rfl rfl rfl rfl rfl rfl ?_ | refine aw_seq ?_ | refine aw_region tab_ok _ rfl ?_ | refine aw_drawn2 tabS_ok _ rfl mixed (by decide +kernel) ?_ | refine aw_condT rfl ?_ | refine aw_condF rfl ?_ | refine aw_block ?_ | refine aw_exit ?_ | refine aw_ret ?_ | refine aw_skip ?_ | rw [List.length_map] | rw [mn_norm] | rw [mx_norm] | rw [u5x] | rw [show ((0 : Nat) : Int) = 0 from rfl])
        refine aw_loopM (fun s : (List SGroup) × Int => match s with | (out_13, n_14) => [(3, .one (.c (.lst (r_1.map cFct)))), (4, .one (.own (out_13.map cSGroup) 0)), (5, .one (.c (.int .i64 i_3))), (6, .one (.c (.int .i64 k_5))), (7, .one (.c (.lst (r_12.map (fun x => [AC.lst (x.map cV)]))))), (8, .one (.c (.int .i64 n_14)))]) (fun s => match s with | (out_13, n_14) => [.spare out_13.length 2]) hx6 (fun _ => Nat.zero_le _)
          (fits_mk ⟨rfl, rfl, rfl, rfl, rfl, rfl, trivial⟩ [] rfl ⟨trivial, by show 0 < 1; omega, trivial, trivial, trivial, trivial, trivial⟩ ⟨trivial, trivial⟩) ?_
        rintro ⟨out_13, n_14⟩ st7 hb7 hk7
        unfold gGroups22_B7 at hb7
        dsimp only at hb7 ⊢
        rcases Bool.eq_false_or_eq_true (decide (n_14 < ((r_12.length : Nat) : Int))) with q_15 | q_15
        · rw [q_15, cond_true] at hb7
          obtain ⟨x_16, i7, hb7⟩ := bind_some hb7
          obtain ⟨i7z, i7⟩ := getI_some i7
          have i7x := idxI (f := (fun x => [AC.lst (x.map cV)])) i7
          obtain ⟨r_17, c8, hb7⟩ := bind_some hb7
          replace c8 := gCounts22_ok c8
          try simp only [List.map_append, List.map_cons, List.map_nil, List.nil_append, tE_eq] at c8
          obtain ⟨g9, hb7⟩ := grd_some hb7
          replace g9 := of_decide_eq_true g9
          obtain rfl := Option.some.inj hb7
          repeat' (first | refine p_ rfl rfl rfl rfl rfl ?_ | refine st_nil ?_ | refine x_ rfl rfl rfl rfl rfl rfl rfl rfl ?_ | refine l_ rfl rfl rfl rfl ?_ | refine s_ rfl rfl rfl ?_ | refine t_ rfl rfl rfl rfl ?_ | refine k_ rfl rfl rfl ?_ | refine k0_ rfl rfl ?_ | refine c_ rfl rfl rfl rfl ?_ | refine pick_t rfl rfl rfl rfl rfl rfl rfl ?_ | refine pick_f rfl rfl rfl rfl rfl rfl rfl ?_ | refine aw_seq ?_ | refine aw_region tab_ok _ rfl ?_ | refine aw_drawn2 tabS_ok _ rfl mixed (by decide +kernel) ?_ | refine aw_condT rfl ?_ | refine aw_condF rfl ?_ | refine aw_block ?_ | refine aw_exit ?_ | refine aw_ret ?_ | refine aw_skip ?_ | rw [List.length_map] | rw [mn_norm] | rw [mx_norm] | rw [u5x] | rw [show ((0 : Nat) : Int) = 0 from rfl])
          exact ⟨_, rfl, fits_mk ⟨rfl, (by simp only [List.map_append, List.map_cons, List.map_nil, List.nil_append] <;> rfl), rfl, rfl, rfl, rfl, trivial⟩ [] (by simp only [List.length_append, List.length_cons, List.length_nil, Nat.zero_add, List.map_append, List.map_cons, List.map_nil] <;> rfl) ⟨trivial, by show 0 < 1; omega, trivial, trivial, trivial, trivial, trivial⟩ ⟨trivial, trivial⟩⟩
        · rw [q_15, cond_false] at hb7
          obtain rfl := Option.some.inj hb7
          have hx7 : gGroups22_K7 k_5 (.inl (out_13, n_14)) = some _ := hk7
          unfold gGroups22_K7 at hx7
          dsimp only at hx7
          obtain rfl := Option.some.inj hx7
          repeat' (first | refine p_ rfl rfl rfl rfl rfl ?_ | refine st_nil ?_ | refine x_ rfl rfl rfl rfl rfl rfl rfl rfl ?_ | refine l_ rfl rfl rfl rfl ?_ | refine s_ rfl rfl rfl ?_ | refine t_ rfl rfl rfl rfl ?_ | refine k_ rfl rfl rfl ?_ | refine k0_ rfl rfl ?_ | refine c_ rfl rfl rfl rfl ?_ | refine pick_t rfl rfl rfl rfl rfl rfl rfl ?_ | refine pick_f rfl rfl rfl rfl rfl rfl rfl ?_ | refine aw_seq ?_ | refine aw_region tab_ok _ rfl ?_ | refine aw_drawn2 tabS_ok _ rfl mixed (by decide +kernel) ?_ | refine aw_condT rfl ?_ | refine aw_condF rfl ?_ | refine aw_block ?_ | refine aw_exit ?_ | refine aw_ret ?_ | refine aw_skip ?_ | rw [List.length_map] | rw [mn_norm] | rw [mx_norm] | rw [u5x] | rw [show ((0 : Nat) : Int) = 0 from rfl])
          exact ⟨_, rfl, fits_mk ⟨rfl, (by simp only [List.map_append, List.map_cons, List.map_nil, List.nil_append] <;> rfl), rfl, trivial⟩ [] (by simp only [List.length_append, List.length_cons, List.length_nil, Nat.zero_add, List.map_append, List.map_cons, List.map_nil] <;> rfl) ⟨trivial, by show 0 < 1; omega, trivial, trivial⟩ ⟨trivial, trivial⟩⟩
    · rw [q_6, cond_false] at hb6
      obtain rfl := Option.some.inj hb6
      have hx6 : gGroups22_K6 r_1 out_2 i_3 (.inl k_5) = some _ := hk6
      unfold gGroups22_K6 at hx6
      dsimp only at hx6
      obtain ⟨s_11, u10, hx6⟩ := bind_some hx6
      obtain ⟨⟨u10a, u10b, u10c⟩, u10⟩ := subI_some u10
      have u10x := subE (f := cFct) u10
      obtain ⟨r_12, c11, hx6⟩ := bind_some hx6
      replace c11 := gRows22_ok c11
      try simp only [List.map_append, List.map_cons, List.map_nil, List.nil_append, tE_eq] at c11
      repeat' (first | refine p_ rfl rfl rfl rfl rfl ?_ | refine st_nil ?_ | refine x_ rfl rfl rfl rfl rfl rfl rfl rfl ?_ | refine l_ rfl rfl rfl rfl ?_ | refine s_ rfl rfl rfl ?_ | refine t_ rfl rfl rfl rfl ?_ | refine k_ rfl rfl rfl ?_ | refine k0_ rfl rfl ?_ | refine c_ rfl rfl rfl rfl ?_ | refine pick_t rfl rfl rfl rfl rfl rfl rfl ?_ | refine pick_f rfl rfl rfl rfl rfl rfl rfl ?_ | refine aw_seq ?_ | refine aw_region tab_ok _ rfl ?_ | refine aw_drawn2 tabS_ok _ rfl mixed (by decide +kernel) ?_ | refine aw_condT rfl ?_ | refine aw_condF rfl ?_ | refine aw_block ?_ | refine aw_exit ?_ | refine aw_ret ?_ | refine aw_skip ?_ | rw [List.length_map] | rw [mn_norm] | rw [mx_norm] | rw [u10x] | rw [show ((0 : Nat) : Int) = 0 from rfl])
      refine aw_loopM (fun s : (List SGroup) × Int => match s with | (out_13, n_14) => [(3, .one (.c (.lst (r_1.map cFct)))), (4, .one (.own (out_13.map cSGroup) 0)), (5, .one (.c (.int .i64 i_3))), (6, .one (.c (.int .i64 k_5))), (7, .one (.c (.lst (r_12.map (fun x => [AC.lst (x.map cV)]))))), (8, .one (.c (.int .i64 n_14)))]) (fun s => match s with | (out_13, n_14) => [.spare out_13.length 2]) hx6 (fun _ => Nat.zero_le _)
        (fits_mk ⟨rfl, rfl, rfl, rfl, rfl, rfl, trivial⟩ [] rfl ⟨trivial, by show 0 < 1; omega, trivial, trivial, trivial, trivial, trivial⟩ ⟨trivial, trivial⟩) ?_
      rintro ⟨out_13, n_14⟩ st7 hb7 hk7
      unfold gGroups22_B7 at hb7
      dsimp only at hb7 ⊢
      rcases Bool.eq_false_or_eq_true (decide (n_14 < ((r_12.length : Nat) : Int))) with q_15 | q_15
      · rw [q_15, cond_true] at hb7
        obtain ⟨x_16, i12, hb7⟩ := bind_some hb7
        obtain ⟨i12z, i12⟩ := getI_some i12
        have i12x := idxI (f := (fun x => [AC.lst (x.map cV)])) i12
        obtain ⟨r_17, c13, hb7⟩ := bind_some hb7
        replace c13 := gCounts22_ok c13
        try simp only [List.map_append, List.map_cons, List.map_nil, List.nil_append, tE_eq] at c13
        obtain ⟨g14, hb7⟩ := grd_some hb7
        replace g14 := of_decide_eq_true g14
        obtain rfl := Option.some.inj hb7
        repeat' (first | refine p_ rfl rfl rfl rfl rfl ?_ | refine st_nil ?_ | refine x_ rfl rfl rfl rfl rfl rfl rfl rfl ?_ | refine l_ rfl rfl rfl rfl ?_ | refine s_ rfl rfl rfl ?_ | refine t_ rfl rfl rfl rfl ?_ | refine k_ rfl rfl rfl ?_ | refine k0_ rfl rfl ?_ | refine c_ rfl rfl rfl rfl ?_ | refine pick_t rfl rfl rfl rfl rfl rfl rfl ?_ | refine pick_f rfl rfl rfl rfl rfl rfl rfl ?_ | refine aw_seq ?_ | refine aw_region tab_ok _ rfl ?_ | refine aw_drawn2 tabS_ok _ rfl mixed (by decide +kernel) ?_ | refine aw_condT rfl ?_ | refine aw_condF rfl ?_ | refine aw_block ?_ | refine aw_exit ?_ | refine aw_ret ?_ | refine aw_skip ?_ | rw [List.length_map] | rw [mn_norm] | rw [mx_norm] | rw [u10x] | rw [show ((0 : Nat) : Int) = 0 from rfl])
        exact ⟨_, rfl, fits_mk ⟨rfl, (by simp only [List.map_append, List.map_cons, List.map_nil, List.nil_append] <;> rfl), rfl, rfl, rfl, rfl, trivial⟩ [] (by simp only [List.length_append, List.length_cons, List.length_nil, Nat.zero_add, List.map_append, List.map_cons, List.map_nil] <;> rfl) ⟨trivial, by show 0 < 1; omega, trivial, trivial, trivial, trivial, trivial⟩ ⟨trivial, trivial⟩⟩
      · rw [q_15, cond_false] at hb7
        obtain rfl := Option.some.inj hb7
        have hx7 : gGroups22_K7 k_5 (.inl (out_13, n_14)) = some _ := hk7
        unfold gGroups22_K7 at hx7
        dsimp only at hx7
        obtain rfl := Option.some.inj hx7
        repeat' (first | refine p_ rfl rfl rfl rfl rfl ?_ | refine st_nil ?_ | refine x_ rfl rfl rfl rfl rfl rfl rfl rfl ?_ | refine l_ rfl rfl rfl rfl ?_ | refine s_ rfl rfl rfl ?_ | refine t_ rfl rfl rfl rfl ?_ | refine k_ rfl rfl rfl ?_ | refine k0_ rfl rfl ?_ | refine c_ rfl rfl rfl rfl ?_ | refine pick_t rfl rfl rfl rfl rfl rfl rfl ?_ | refine pick_f rfl rfl rfl rfl rfl rfl rfl ?_ | refine aw_seq ?_ | refine aw_region tab_ok _ rfl ?_ | refine aw_drawn2 tabS_ok _ rfl mixed (by decide +kernel) ?_ | refine aw_condT rfl ?_ | refine aw_condF rfl ?_ | refine aw_block ?_ | refine aw_exit ?_ | refine aw_ret ?_ | refine aw_skip ?_ | rw [List.length_map] | rw [mn_norm] | rw [mx_norm] | rw [u10x] | rw [show ((0 : Nat) : Int) = 0 from rfl])
        exact ⟨_, rfl, fits_mk ⟨rfl, (by simp only [List.map_append, List.map_cons, List.map_nil, List.nil_append] <;> rfl), rfl, trivial⟩ [] (by simp only [List.length_append, List.length_cons, List.length_nil, Nat.zero_add, List.map_append, List.map_cons, List.map_nil] <;> rfl) ⟨trivial, by show 0 < 1; omega, trivial, trivial⟩ ⟨trivial, trivial⟩⟩
  · rw [q_4, cond_false] at hb5
    obtain rfl := Option.some.inj hb5
    have hx5 : gGroups22_K5 (.inl (out_2, i_3)) = some _ := hk5
    unfold gGroups22_K5 at hx5
    dsimp only at hx5
    obtain rfl := Option.some.inj hx5
    exact go_
def gBagR_B1 (r_1 : (List SGroup)) : ((List Fct) × Int) → Option (Step ((List Fct) × Int) ((List Fct))) := fun s => match s with
  | (out_2, i_3) => bif (decide (i_3 < ((r_1.length : Nat) : Int))) then
    (getI r_1 i_3).bind fun x_5 => (gLevR x_5.steps).bind fun r_6 => (gDuring x_5.row r_6).bind fun r_7 => bif (decide (out_2.length + r_7.length ≤ 3518437208883)) then (some (.next ((out_2 ++ r_7), (IntKind.i64.wrap (i_3 + (1 : Int)))))) else none
  else
    some (.exit (out_2, i_3))
def gBagR_K1 : Sum ((List Fct) × Int) ((List Fct)) → Option (((List Fct)))
  | .inl (out_2, i_3) => some out_2
  | .inr q => some q
def gBagR (a_l : (List Fct)) : Option ((List Fct)) := (gGroups22 a_l).bind fun r_1 => (loopM (gBagR_B1 r_1) fuel ([], (0 : Int))).bind (gBagR_K1)
theorem gBagR_ok {a_l : (List Fct)} {r : (List Fct)} (H : gBagR a_l = some r) : Pure Tryz.prog 33 [.one (.lst (a_l.map cFct))] (.val (.one (.lst (r.map cFct)))) := by
  unfold gBagR at H
  refine pure_of_aw tab_ok Tryz.func33 rfl rfl Tryz.ntmps33 (by simp) ?_
  simp only [argT, PV.av, List.map_cons, List.map_nil]
  obtain ⟨r_1, c1, H⟩ := bind_some H
  replace c1 := gGroups22_ok c1
  try simp only [List.map_append, List.map_cons, List.map_nil, List.nil_append, tE_eq] at c1
  repeat' (first | refine p_ rfl rfl rfl rfl rfl ?_ | refine st_nil ?_ | refine x_ rfl rfl rfl rfl rfl rfl rfl rfl ?_ | refine l_ rfl rfl rfl rfl ?_ | refine s_ rfl rfl rfl ?_ | refine t_ rfl rfl rfl rfl ?_ | refine k_ rfl rfl rfl ?_ | refine k0_ rfl rfl ?_ | refine c_ rfl rfl rfl rfl ?_ | refine pick_t rfl rfl rfl rfl rfl rfl rfl ?_ | refine pick_f rfl rfl rfl rfl rfl rfl rfl ?_ | refine aw_seq ?_ | refine aw_region tab_ok _ rfl ?_ | refine aw_drawn2 tabS_ok _ rfl mixed (by decide +kernel) ?_ | refine aw_condT rfl ?_ | refine aw_condF rfl ?_ | refine aw_block ?_ | refine aw_exit ?_ | refine aw_ret ?_ | refine aw_skip ?_ | rw [List.length_map] | rw [mn_norm] | rw [mx_norm])
  refine aw_tok 4 3 rfl ?_
  refine aw_loopM (fun s : (List Fct) × Int => match s with | (out_2, i_3) => [(3, .one (.c (.lst (r_1.map cSGroup)))), (4, .one (.own (out_2.map cFct) 0)), (5, .one (.c (.int .i64 i_3)))]) (fun s => match s with | (out_2, i_3) => [.spare out_2.length 3]) H (fun _ => Nat.zero_le _)
    (fits_mk ⟨rfl, rfl, rfl, trivial⟩ [] rfl ⟨trivial, by show 0 < 1; omega, trivial, trivial⟩ ⟨trivial, trivial⟩) ?_
  rintro ⟨out_2, i_3⟩ st1 hb1 hk1
  unfold gBagR_B1 at hb1
  dsimp only at hb1 ⊢
  rcases Bool.eq_false_or_eq_true (decide (i_3 < ((r_1.length : Nat) : Int))) with q_4 | q_4
  · rw [q_4, cond_true] at hb1
    obtain ⟨x_5, i2, hb1⟩ := bind_some hb1
    obtain ⟨i2z, i2⟩ := getI_some i2
    have i2x := idxI (f := cSGroup) i2
    obtain ⟨r_6, c3, hb1⟩ := bind_some hb1
    replace c3 := gLevR_ok c3
    try simp only [List.map_append, List.map_cons, List.map_nil, List.nil_append, tE_eq] at c3
    obtain ⟨r_7, c4, hb1⟩ := bind_some hb1
    replace c4 := gDuring_ok c4
    try simp only [List.map_append, List.map_cons, List.map_nil, List.nil_append, tE_eq] at c4
    obtain ⟨g5, hb1⟩ := grd_some hb1
    replace g5 := of_decide_eq_true g5
    obtain rfl := Option.some.inj hb1
    repeat' (first | refine p_ rfl rfl rfl rfl rfl ?_ | refine st_nil ?_ | refine x_ rfl rfl rfl rfl rfl rfl rfl rfl ?_ | refine l_ rfl rfl rfl rfl ?_ | refine s_ rfl rfl rfl ?_ | refine t_ rfl rfl rfl rfl ?_ | refine k_ rfl rfl rfl ?_ | refine k0_ rfl rfl ?_ | refine c_ rfl rfl rfl rfl ?_ | refine pick_t rfl rfl rfl rfl rfl rfl rfl ?_ | refine pick_f rfl rfl rfl rfl rfl rfl rfl ?_ | refine aw_seq ?_ | refine aw_region tab_ok _ rfl ?_ | refine aw_drawn2 tabS_ok _ rfl mixed (by decide +kernel) ?_ | refine aw_condT rfl ?_ | refine aw_condF rfl ?_ | refine aw_block ?_ | refine aw_exit ?_ | refine aw_ret ?_ | refine aw_skip ?_ | rw [List.length_map] | rw [mn_norm] | rw [mx_norm])
    exact ⟨_, rfl, fits_mk ⟨rfl, (by simp only [List.map_append, List.map_cons, List.map_nil, List.nil_append] <;> rfl), rfl, trivial⟩ [] (by simp only [List.length_append, List.length_cons, List.length_nil, Nat.zero_add, List.map_append, List.map_cons, List.map_nil] <;> rfl) ⟨trivial, by show 0 < 1; omega, trivial, trivial⟩ ⟨trivial, trivial⟩⟩
  · rw [q_4, cond_false] at hb1
    obtain rfl := Option.some.inj hb1
    have hx1 : gBagR_K1 (.inl (out_2, i_3)) = some _ := hk1
    unfold gBagR_K1 at hx1
    dsimp only at hx1
    obtain rfl := Option.some.inj hx1
    exact go_
def gIdent_B1 (a_a : (List Fct)) (a_b : (List Fct)) : (Int) → Option (Step (Int) (Bool)) := fun s => match s with
  | i_2 => bif (decide (i_2 < ((a_a.length : Nat) : Int))) then
    (getI a_a i_2).bind fun x_4 => (getI a_b i_2).bind fun x_5 => bif (!(sameS [.c (.int .i64 x_4.valid.lo), .c (.int .i64 x_4.valid.hi)] [.c (.int .i64 x_5.valid.lo), .c (.int .i64 x_5.valid.hi)])) then
      some (.ret false)
    else
      (gCmp8 x_4.row x_5.row).bind fun r_7 => bif (decide (r_7 ≠ (0 : Int))) then
        some (.ret false)
      else
        some (.next (IntKind.i64.wrap (i_2 + (1 : Int))))
  else
    some (.exit i_2)
def gIdent_K1 : Sum (Int) (Bool) → Option ((Bool))
  | .inl i_2 => some true
  | .inr q => some q
def gIdent (a_a : (List Fct)) (a_b : (List Fct)) : Option (Bool) := bif (decide (((a_a.length : Nat) : Int) ≠ ((a_b.length : Nat) : Int))) then
  some false
 else
  (loopM (gIdent_B1 a_a a_b) fuel (0 : Int)).bind (gIdent_K1)
theorem gIdent_ok {a_a : (List Fct)} {a_b : (List Fct)} {r : Bool} (H : gIdent a_a a_b = some r) : Pure Tryz.prog 34 [.one (.lst (a_a.map cFct)), .one (.lst (a_b.map cFct))] (.val (.one (.bool r))) := by
  unfold gIdent at H
  refine pure_of_aw tab_ok Tryz.func34 rfl rfl Tryz.ntmps34 (by simp) ?_
  simp only [argT, PV.av, List.map_cons, List.map_nil]
  rcases Bool.eq_false_or_eq_true (decide (((a_a.length : Nat) : Int) ≠ ((a_b.length : Nat) : Int))) with q_1 | q_1
  · rw [q_1, cond_true] at H
    obtain rfl := Option.some.inj H
    exact go_
  · rw [q_1, cond_false] at H
    repeat' (first | refine p_ rfl rfl rfl rfl rfl ?_ | refine st_nil ?_ | refine x_ rfl rfl rfl rfl rfl rfl rfl rfl ?_ | refine l_ rfl rfl rfl rfl ?_ | refine s_ rfl rfl rfl ?_ | refine t_ rfl rfl rfl rfl ?_ | refine k_ rfl rfl rfl ?_ | refine k0_ rfl rfl ?_ | refine c_ rfl rfl rfl rfl ?_ | refine pick_t rfl rfl rfl rfl rfl rfl rfl ?_ | refine pick_f rfl rfl rfl rfl rfl rfl rfl ?_ | refine aw_seq ?_ | refine aw_region tab_ok _ rfl ?_ | refine aw_drawn2 tabS_ok _ rfl mixed (by decide +kernel) ?_ | refine aw_condT rfl ?_ | refine aw_condF rfl ?_ | refine aw_block ?_ | refine aw_exit ?_ | refine aw_ret ?_ | refine aw_skip ?_ | rw [List.length_map] | rw [mn_norm] | rw [mx_norm])
    refine aw_loopM (fun s : Int => match s with | i_2 => [(0, .one (.c (.lst (a_a.map cFct)))), (1, .one (.c (.lst (a_b.map cFct)))), (5, .one (.c (.int .i64 i_2)))]) (fun s => match s with | i_2 => []) H (fun _ => Nat.zero_le _)
      (fits_mk ⟨rfl, rfl, rfl, trivial⟩ [] rfl ⟨trivial, trivial, trivial, trivial⟩ trivial) ?_
    rintro i_2 st1 hb1 hk1
    unfold gIdent_B1 at hb1
    dsimp only at hb1 ⊢
    rcases Bool.eq_false_or_eq_true (decide (i_2 < ((a_a.length : Nat) : Int))) with q_3 | q_3
    · rw [q_3, cond_true] at hb1
      obtain ⟨x_4, i1, hb1⟩ := bind_some hb1
      obtain ⟨i1z, i1⟩ := getI_some i1
      have i1x := idxI (f := cFct) i1
      obtain ⟨x_5, i2, hb1⟩ := bind_some hb1
      obtain ⟨i2z, i2⟩ := getI_some i2
      have i2x := idxI (f := cFct) i2
      rcases Bool.eq_false_or_eq_true (!(sameS [.c (.int .i64 x_4.valid.lo), .c (.int .i64 x_4.valid.hi)] [.c (.int .i64 x_5.valid.lo), .c (.int .i64 x_5.valid.hi)])) with q_6 | q_6
      · rw [q_6, cond_true] at hb1
        obtain rfl := Option.some.inj hb1
        have hx1 : gIdent_K1 (.inr false) = some _ := hk1
        unfold gIdent_K1 at hx1
        dsimp only at hx1
        obtain rfl := Option.some.inj hx1
        exact go_
      · rw [q_6, cond_false] at hb1
        obtain ⟨r_7, c3, hb1⟩ := bind_some hb1
        replace c3 := gCmp8_ok c3
        try simp only [List.map_append, List.map_cons, List.map_nil, List.nil_append, tE_eq] at c3
        rcases Bool.eq_false_or_eq_true (decide (r_7 ≠ (0 : Int))) with q_8 | q_8
        · rw [q_8, cond_true] at hb1
          obtain rfl := Option.some.inj hb1
          have hx1 : gIdent_K1 (.inr false) = some _ := hk1
          unfold gIdent_K1 at hx1
          dsimp only at hx1
          obtain rfl := Option.some.inj hx1
          exact go_
        · rw [q_8, cond_false] at hb1
          obtain rfl := Option.some.inj hb1
          repeat' (first | refine p_ rfl rfl rfl rfl rfl ?_ | refine st_nil ?_ | refine x_ rfl rfl rfl rfl rfl rfl rfl rfl ?_ | refine l_ rfl rfl rfl rfl ?_ | refine s_ rfl rfl rfl ?_ | refine t_ rfl rfl rfl rfl ?_ | refine k_ rfl rfl rfl ?_ | refine k0_ rfl rfl ?_ | refine c_ rfl rfl rfl rfl ?_ | refine pick_t rfl rfl rfl rfl rfl rfl rfl ?_ | refine pick_f rfl rfl rfl rfl rfl rfl rfl ?_ | refine aw_seq ?_ | refine aw_region tab_ok _ rfl ?_ | refine aw_drawn2 tabS_ok _ rfl mixed (by decide +kernel) ?_ | refine aw_condT rfl ?_ | refine aw_condF rfl ?_ | refine aw_block ?_ | refine aw_exit ?_ | refine aw_ret ?_ | refine aw_skip ?_ | rw [List.length_map] | rw [mn_norm] | rw [mx_norm])
          exact ⟨_, rfl, fits_mk ⟨rfl, rfl, rfl, trivial⟩ [] rfl ⟨trivial, trivial, trivial, trivial⟩ trivial⟩
    · rw [q_3, cond_false] at hb1
      obtain rfl := Option.some.inj hb1
      have hx1 : gIdent_K1 (.inl i_2) = some _ := hk1
      unfold gIdent_K1 at hx1
      dsimp only at hx1
      obtain rfl := Option.some.inj hx1
      exact go_
end
end Go.Proofs.YtfccopdbgfdcdaaGreatDoor
