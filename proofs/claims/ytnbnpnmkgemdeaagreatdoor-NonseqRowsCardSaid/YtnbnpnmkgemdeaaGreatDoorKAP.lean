/- Parts of the proof, joined. No condition. -/
import Derived.Test.YtnbnpnmkgemdeaaGreatDoorKAN
import Derived.Test.YtnbnpnmkgemdeaaGreatDoorKAO
import Derived.Test.YtnbnpnmkgemdeaaGreatDoorKAK
set_option linter.unusedSimpArgs false
set_option linter.unusedVariables false
namespace Go.Proofs.YtnbnpnmkgemdeaaGreatDoor
open Go.RowKit Go.MapKept
set_option maxRecDepth 100000
set_option maxHeartbeats 8000000
set_option linter.unusedVariables false
set_option linter.unusedSimpArgs false
def gFactsR_B1 (a_l : (List Ver)) : ((List Fct) × Int) → Option (Step ((List Fct) × Int) ((List Fct))) := fun s => match s with
  | (out_1, i_2) => bif (decide (i_2 < ((a_l.length : Nat) : Int))) then
    (getI a_l i_2).bind fun x_4 => bif (decide (out_1.length + 1 ≤ 3518437208883)) then (some (.next ((out_1 ++ [(⟨x_4.row, x_4.valid⟩ : Fct)]), (IntKind.i64.wrap (i_2 + (1 : Int)))))) else none
  else
    some (.exit (out_1, i_2))
def gFactsR_K1 : Sum ((List Fct) × Int) ((List Fct)) → Option (((List Fct)))
  | .inl (out_1, i_2) => some out_1
  | .inr q => some q
def gFactsR (a_l : (List Ver)) : Option ((List Fct)) := (loopM (gFactsR_B1 a_l) fuel ([], (0 : Int))).bind (gFactsR_K1)
theorem gFactsR_ok {a_l : (List Ver)} {r : (List Fct)} (H : gFactsR a_l = some r) : Pure Tryz.prog 17 [.one (.lst (a_l.map cVer))] (.val (.one (.lst (r.map cFct)))) := by
  unfold gFactsR at H
  refine pure_of_aw tab_ok Tryz.func17 rfl rfl Tryz.ntmps17 (by simp) ?_
  simp only [argT, PV.av, List.map_cons, List.map_nil]
  repeat' (first | refine p_ rfl rfl rfl rfl rfl ?_ | refine st_nil ?_ | refine x_ rfl rfl rfl rfl rfl rfl rfl rfl ?_ | refine l_ rfl rfl rfl rfl ?_ | refine s_ rfl rfl rfl ?_ | refine t_ rfl rfl rfl rfl ?_ | refine k_ rfl rfl rfl ?_ | refine k0_ rfl rfl ?_ | refine c_ rfl rfl rfl rfl ?_ | refine pick_t rfl rfl rfl rfl rfl rfl rfl ?_ | refine pick_f rfl rfl rfl rfl rfl rfl rfl ?_ | refine aw_seq ?_ | refine aw_region tab_ok _ rfl ?_ | refine aw_drawn2 tabS_ok _ rfl mixed (by decide +kernel) ?_ | refine aw_condT rfl ?_ | refine aw_condF rfl ?_ | refine aw_block ?_ | refine aw_exit ?_ | refine aw_ret ?_ | refine aw_skip ?_ | rw [List.length_map] | rw [mn_norm] | rw [mx_norm])
  refine aw_tok 3 3 rfl ?_
  refine aw_loopM (fun s : (List Fct) × Int => match s with | (out_1, i_2) => [(0, .one (.c (.lst (a_l.map cVer)))), (2, .one (.emp)), (3, .one (.own (out_1.map cFct) 0)), (4, .one (.c (.int .i64 i_2)))]) (fun s => match s with | (out_1, i_2) => [.spare out_1.length 3]) H (fun _ => Nat.zero_le _)
    (fits_mk ⟨rfl, rfl, rfl, rfl, trivial⟩ [] rfl ⟨trivial, trivial, by show 0 < 1; omega, trivial, trivial⟩ ⟨trivial, trivial⟩) ?_
  rintro ⟨out_1, i_2⟩ st1 hb1 hk1
  unfold gFactsR_B1 at hb1
  dsimp only at hb1 ⊢
  rcases Bool.eq_false_or_eq_true (decide (i_2 < ((a_l.length : Nat) : Int))) with q_3 | q_3
  · rw [q_3, cond_true] at hb1
    obtain ⟨x_4, i1, hb1⟩ := bind_some hb1
    obtain ⟨i1z, i1⟩ := getI_some i1
    have i1x := idxI (f := cVer) i1
    obtain ⟨g2, hb1⟩ := grd_some hb1
    replace g2 := of_decide_eq_true g2
    obtain rfl := Option.some.inj hb1
    repeat' (first | refine p_ rfl rfl rfl rfl rfl ?_ | refine st_nil ?_ | refine x_ rfl rfl rfl rfl rfl rfl rfl rfl ?_ | refine l_ rfl rfl rfl rfl ?_ | refine s_ rfl rfl rfl ?_ | refine t_ rfl rfl rfl rfl ?_ | refine k_ rfl rfl rfl ?_ | refine k0_ rfl rfl ?_ | refine c_ rfl rfl rfl rfl ?_ | refine pick_t rfl rfl rfl rfl rfl rfl rfl ?_ | refine pick_f rfl rfl rfl rfl rfl rfl rfl ?_ | refine aw_seq ?_ | refine aw_region tab_ok _ rfl ?_ | refine aw_drawn2 tabS_ok _ rfl mixed (by decide +kernel) ?_ | refine aw_condT rfl ?_ | refine aw_condF rfl ?_ | refine aw_block ?_ | refine aw_exit ?_ | refine aw_ret ?_ | refine aw_skip ?_ | rw [List.length_map] | rw [mn_norm] | rw [mx_norm])
    exact ⟨_, rfl, fits_mk ⟨rfl, rfl, (by simp only [List.map_append, List.map_cons, List.map_nil, List.nil_append] <;> rfl), rfl, trivial⟩ [] (by simp only [List.length_append, List.length_cons, List.length_nil, Nat.zero_add] <;> rfl) ⟨trivial, trivial, by show 0 < 1; omega, trivial, trivial⟩ ⟨trivial, trivial⟩⟩
  · rw [q_3, cond_false] at hb1
    obtain rfl := Option.some.inj hb1
    have hx1 : gFactsR_K1 (.inl (out_1, i_2)) = some _ := hk1
    unfold gFactsR_K1 at hx1
    dsimp only at hx1
    obtain rfl := Option.some.inj hx1
    exact go_
def gFewR_B1 (a_l : (List Fct)) : (Int) → Option (Step (Int) (Bool)) := fun s => match s with
  | i_2 => bif (decide (i_2 < ((a_l.length : Nat) : Int))) then
    (getI a_l i_2).bind fun x_4 => bif (decide ((60 : Int) < ((x_4.row.length : Nat) : Int))) then
      some (.ret false)
    else
      some (.next (IntKind.i64.wrap (i_2 + (1 : Int))))
  else
    some (.exit i_2)
def gFewR_K1 : Sum (Int) (Bool) → Option ((Bool))
  | .inl i_2 => some true
  | .inr q => some q
def gFewR (a_l : (List Fct)) (a_most : Int) : Option (Bool) := bif (decide (a_most < ((a_l.length : Nat) : Int))) then
  some false
 else
  (loopM (gFewR_B1 a_l) fuel (0 : Int)).bind (gFewR_K1)
theorem gFewR_ok {a_l : (List Fct)} {a_most : Int} {r : Bool} (H : gFewR a_l a_most = some r) : Pure Tryz.prog 39 [.one (.lst (a_l.map cFct)), .one (.int .i64 a_most)] (.val (.one (.bool r))) := by
  unfold gFewR at H
  refine pure_of_aw tab_ok Tryz.func39 rfl rfl Tryz.ntmps39 (by simp) ?_
  simp only [argT, PV.av, List.map_cons, List.map_nil]
  rcases Bool.eq_false_or_eq_true (decide (a_most < ((a_l.length : Nat) : Int))) with q_1 | q_1
  · rw [q_1, cond_true] at H
    obtain rfl := Option.some.inj H
    exact go_
  · rw [q_1, cond_false] at H
    repeat' (first | refine p_ rfl rfl rfl rfl rfl ?_ | refine st_nil ?_ | refine x_ rfl rfl rfl rfl rfl rfl rfl rfl ?_ | refine l_ rfl rfl rfl rfl ?_ | refine s_ rfl rfl rfl ?_ | refine t_ rfl rfl rfl rfl ?_ | refine k_ rfl rfl rfl ?_ | refine k0_ rfl rfl ?_ | refine c_ rfl rfl rfl rfl ?_ | refine pick_t rfl rfl rfl rfl rfl rfl rfl ?_ | refine pick_f rfl rfl rfl rfl rfl rfl rfl ?_ | refine aw_seq ?_ | refine aw_region tab_ok _ rfl ?_ | refine aw_drawn2 tabS_ok _ rfl mixed (by decide +kernel) ?_ | refine aw_condT rfl ?_ | refine aw_condF rfl ?_ | refine aw_block ?_ | refine aw_exit ?_ | refine aw_ret ?_ | refine aw_skip ?_ | rw [List.length_map] | rw [mn_norm] | rw [mx_norm])
    refine aw_loopM (fun s : Int => match s with | i_2 => [(0, .one (.c (.lst (a_l.map cFct)))), (4, .one (.c (.bool false))), (5, .one (.c (.int .i64 i_2)))]) (fun s => match s with | i_2 => []) H (fun _ => Nat.zero_le _)
      (fits_mk ⟨rfl, rfl, rfl, trivial⟩ [] rfl ⟨trivial, trivial, trivial, trivial⟩ trivial) ?_
    rintro i_2 st1 hb1 hk1
    unfold gFewR_B1 at hb1
    dsimp only at hb1 ⊢
    rcases Bool.eq_false_or_eq_true (decide (i_2 < ((a_l.length : Nat) : Int))) with q_3 | q_3
    · rw [q_3, cond_true] at hb1
      obtain ⟨x_4, i1, hb1⟩ := bind_some hb1
      obtain ⟨i1z, i1⟩ := getI_some i1
      have i1x := idxI (f := cFct) i1
      rcases Bool.eq_false_or_eq_true (decide ((60 : Int) < ((x_4.row.length : Nat) : Int))) with q_5 | q_5
      · rw [q_5, cond_true] at hb1
        obtain rfl := Option.some.inj hb1
        have hx1 : gFewR_K1 (.inr false) = some _ := hk1
        unfold gFewR_K1 at hx1
        dsimp only at hx1
        obtain rfl := Option.some.inj hx1
        exact go_
      · rw [q_5, cond_false] at hb1
        obtain rfl := Option.some.inj hb1
        repeat' (first | refine p_ rfl rfl rfl rfl rfl ?_ | refine st_nil ?_ | refine x_ rfl rfl rfl rfl rfl rfl rfl rfl ?_ | refine l_ rfl rfl rfl rfl ?_ | refine s_ rfl rfl rfl ?_ | refine t_ rfl rfl rfl rfl ?_ | refine k_ rfl rfl rfl ?_ | refine k0_ rfl rfl ?_ | refine c_ rfl rfl rfl rfl ?_ | refine pick_t rfl rfl rfl rfl rfl rfl rfl ?_ | refine pick_f rfl rfl rfl rfl rfl rfl rfl ?_ | refine aw_seq ?_ | refine aw_region tab_ok _ rfl ?_ | refine aw_drawn2 tabS_ok _ rfl mixed (by decide +kernel) ?_ | refine aw_condT rfl ?_ | refine aw_condF rfl ?_ | refine aw_block ?_ | refine aw_exit ?_ | refine aw_ret ?_ | refine aw_skip ?_ | rw [List.length_map] | rw [mn_norm] | rw [mx_norm])
        exact ⟨_, rfl, fits_mk ⟨rfl, rfl, rfl, trivial⟩ [] rfl ⟨trivial, trivial, trivial, trivial⟩ trivial⟩
    · rw [q_3, cond_false] at hb1
      obtain rfl := Option.some.inj hb1
      have hx1 : gFewR_K1 (.inl i_2) = some _ := hk1
      unfold gFewR_K1 at hx1
      dsimp only at hx1
      obtain rfl := Option.some.inj hx1
      exact go_
def gFew (a_l : (List Ver)) : Option (Bool) := (gFactsR a_l).bind fun r_1 => (gFewR r_1 (16 : Int)).bind fun r_2 => some r_2
theorem gFew_ok {a_l : (List Ver)} {r : Bool} (H : gFew a_l = some r) : Pure Tryz.prog 10 [.one (.lst (a_l.map cVer))] (.val (.one (.bool r))) := by
  unfold gFew at H
  refine pure_of_aw tab_ok Tryz.func10 rfl rfl Tryz.ntmps10 (by simp) ?_
  simp only [argT, PV.av, List.map_cons, List.map_nil]
  obtain ⟨r_1, c1, H⟩ := bind_some H
  replace c1 := gFactsR_ok c1
  try simp only [List.map_append, List.map_cons, List.map_nil, List.nil_append, tE_eq, tP_eq] at c1
  obtain ⟨r_2, c2, H⟩ := bind_some H
  replace c2 := gFewR_ok c2
  try simp only [List.map_append, List.map_cons, List.map_nil, List.nil_append, tE_eq, tP_eq] at c2
  obtain rfl := Option.some.inj H
  exact go_
def gSign (a_less : Bool) (a_greater : Bool) : Option (Int) := bif a_less then
  some (-1 : Int)
 else
  bif a_greater then
    some (1 : Int)
  else
    some (0 : Int)
theorem gSign_ok {a_less : Bool} {a_greater : Bool} {r : Int} (H : gSign a_less a_greater = some r) : Pure Tryz.prog 95 [.one (.bool a_less), .one (.bool a_greater)] (.val (.one (.int .i64 r))) := by
  unfold gSign at H
  refine pure_of_aw tab_ok Tryz.func95 rfl rfl Tryz.ntmps95 (by simp) ?_
  simp only [argT, PV.av, List.map_cons, List.map_nil]
  rcases Bool.eq_false_or_eq_true a_less with q_1 | q_1
  · rw [q_1, cond_true] at H
    obtain rfl := Option.some.inj H
    exact go_
  · rw [q_1, cond_false] at H
    rcases Bool.eq_false_or_eq_true a_greater with q_2 | q_2
    · rw [q_2, cond_true] at H
      obtain rfl := Option.some.inj H
      exact go_
    · rw [q_2, cond_false] at H
      obtain rfl := Option.some.inj H
      exact go_
def gCmp7 (a_a : Val) (a_b : Val) : Option (Int) := bif (decide (a_a.kind ≠ a_b.kind)) then
  (gSign (decide (a_a.kind < a_b.kind)) (decide (a_b.kind < a_a.kind))).bind fun r_2 => some r_2
 else
  bif (decide (a_a.int ≠ a_b.int)) then
    (gSign (decide (a_a.int < a_b.int)) (decide (a_b.int < a_a.int))).bind fun r_4 => some r_4
  else
    (gSign (Op.bytesLess a_a.text.toList a_b.text.toList) (!((Op.bytesLess a_a.text.toList a_b.text.toList) || (a_a.text.toList == a_b.text.toList)))).bind fun r_5 => some r_5
theorem gCmp7_ok {a_a : Val} {a_b : Val} {r : Int} (H : gCmp7 a_a a_b = some r) : Pure Tryz.prog 72 [.agg (cV a_a), .agg (cV a_b)] (.val (.one (.int .i64 r))) := by
  unfold gCmp7 at H
  refine pure_of_aw tab_ok Tryz.func72 rfl rfl Tryz.ntmps72 (by simp) ?_
  simp only [argT, PV.av, List.map_cons, List.map_nil]
  rcases Bool.eq_false_or_eq_true (decide (a_a.kind ≠ a_b.kind)) with q_1 | q_1
  · rw [q_1, cond_true] at H
    obtain ⟨r_2, c1, H⟩ := bind_some H
    replace c1 := gSign_ok c1
    try simp only [List.map_append, List.map_cons, List.map_nil, List.nil_append, tE_eq, tP_eq] at c1
    obtain rfl := Option.some.inj H
    exact go_
  · rw [q_1, cond_false] at H
    rcases Bool.eq_false_or_eq_true (decide (a_a.int ≠ a_b.int)) with q_3 | q_3
    · rw [q_3, cond_true] at H
      obtain ⟨r_4, c2, H⟩ := bind_some H
      replace c2 := gSign_ok c2
      try simp only [List.map_append, List.map_cons, List.map_nil, List.nil_append, tE_eq, tP_eq] at c2
      obtain rfl := Option.some.inj H
      exact go_
    · rw [q_3, cond_false] at H
      obtain ⟨r_5, c3, H⟩ := bind_some H
      replace c3 := gSign_ok c3
      try simp only [List.map_append, List.map_cons, List.map_nil, List.nil_append, tE_eq, tP_eq] at c3
      obtain rfl := Option.some.inj H
      exact go_
def gCmp8_B1 (a_a : (List Val)) (a_b : (List Val)) : (Int) → Option (Step (Int) (Int)) := fun s => match s with
  | i_1 => bif (decide (i_1 < ((a_a.length : Nat) : Int))) then
    bif (decide (i_1 < ((a_b.length : Nat) : Int))) then
      (getI a_a i_1).bind fun x_4 => (getI a_b i_1).bind fun x_5 => (gCmp7 x_4 x_5).bind fun r_6 => bif (decide (r_6 ≠ (0 : Int))) then
        some (.ret r_6)
      else
        some (.next (IntKind.i64.wrap (i_1 + (1 : Int))))
    else
      some (.exit i_1)
  else
    some (.exit i_1)
def gCmp8_K1 (a_a : (List Val)) (a_b : (List Val)) : Sum (Int) (Int) → Option ((Int))
  | .inl i_1 => bif (decide (((a_a.length : Nat) : Int) < ((a_b.length : Nat) : Int))) then
    some (-1 : Int)
  else
    bif (decide (((a_b.length : Nat) : Int) < ((a_a.length : Nat) : Int))) then
      some (1 : Int)
    else
      some (0 : Int)
  | .inr q => some q
def gCmp8 (a_a : (List Val)) (a_b : (List Val)) : Option (Int) := (loopM (gCmp8_B1 a_a a_b) fuel (0 : Int)).bind (gCmp8_K1 a_a a_b)
theorem gCmp8_ok {a_a : (List Val)} {a_b : (List Val)} {r : Int} (H : gCmp8 a_a a_b = some r) : Pure Tryz.prog 45 [.one (.lst (a_a.map cV)), .one (.lst (a_b.map cV))] (.val (.one (.int .i64 r))) := by
  unfold gCmp8 at H
  refine pure_of_aw tab_ok Tryz.func45 rfl rfl Tryz.ntmps45 (by simp) ?_
  simp only [argT, PV.av, List.map_cons, List.map_nil]
  repeat' (first | refine p_ rfl rfl rfl rfl rfl ?_ | refine st_nil ?_ | refine x_ rfl rfl rfl rfl rfl rfl rfl rfl ?_ | refine l_ rfl rfl rfl rfl ?_ | refine s_ rfl rfl rfl ?_ | refine t_ rfl rfl rfl rfl ?_ | refine k_ rfl rfl rfl ?_ | refine k0_ rfl rfl ?_ | refine c_ rfl rfl rfl rfl ?_ | refine pick_t rfl rfl rfl rfl rfl rfl rfl ?_ | refine pick_f rfl rfl rfl rfl rfl rfl rfl ?_ | refine aw_seq ?_ | refine aw_region tab_ok _ rfl ?_ | refine aw_drawn2 tabS_ok _ rfl mixed (by decide +kernel) ?_ | refine aw_condT rfl ?_ | refine aw_condF rfl ?_ | refine aw_block ?_ | refine aw_exit ?_ | refine aw_ret ?_ | refine aw_skip ?_ | rw [List.length_map] | rw [mn_norm] | rw [mx_norm])
  refine aw_loopM (fun s : Int => match s with | i_1 => [(0, .one (.c (.lst (a_a.map cV)))), (1, .one (.c (.lst (a_b.map cV)))), (4, .one (.c (.int .i64 (0 : Int)))), (5, .one (.c (.int .i64 i_1)))]) (fun s => match s with | i_1 => []) H (fun _ => Nat.zero_le _)
    (fits_mk ⟨rfl, rfl, rfl, rfl, trivial⟩ [] rfl ⟨trivial, trivial, trivial, trivial, trivial⟩ trivial) ?_
  rintro i_1 st1 hb1 hk1
  unfold gCmp8_B1 at hb1
  dsimp only at hb1 ⊢
  rcases Bool.eq_false_or_eq_true (decide (i_1 < ((a_a.length : Nat) : Int))) with q_2 | q_2
  · rw [q_2, cond_true] at hb1
    rcases Bool.eq_false_or_eq_true (decide (i_1 < ((a_b.length : Nat) : Int))) with q_3 | q_3
    · rw [q_3, cond_true] at hb1
      obtain ⟨x_4, i1, hb1⟩ := bind_some hb1
      obtain ⟨i1z, i1⟩ := getI_some i1
      have i1x := idxI (f := cV) i1
      obtain ⟨x_5, i2, hb1⟩ := bind_some hb1
      obtain ⟨i2z, i2⟩ := getI_some i2
      have i2x := idxI (f := cV) i2
      obtain ⟨r_6, c3, hb1⟩ := bind_some hb1
      replace c3 := gCmp7_ok c3
      try simp only [List.map_append, List.map_cons, List.map_nil, List.nil_append, tE_eq, tP_eq] at c3
      rcases Bool.eq_false_or_eq_true (decide (r_6 ≠ (0 : Int))) with q_7 | q_7
      · rw [q_7, cond_true] at hb1
        obtain rfl := Option.some.inj hb1
        have hx1 : gCmp8_K1 a_a a_b (.inr r_6) = some _ := hk1
        unfold gCmp8_K1 at hx1
        dsimp only at hx1
        obtain rfl := Option.some.inj hx1
        exact go_
      · rw [q_7, cond_false] at hb1
        obtain rfl := Option.some.inj hb1
        repeat' (first | refine p_ rfl rfl rfl rfl rfl ?_ | refine st_nil ?_ | refine x_ rfl rfl rfl rfl rfl rfl rfl rfl ?_ | refine l_ rfl rfl rfl rfl ?_ | refine s_ rfl rfl rfl ?_ | refine t_ rfl rfl rfl rfl ?_ | refine k_ rfl rfl rfl ?_ | refine k0_ rfl rfl ?_ | refine c_ rfl rfl rfl rfl ?_ | refine pick_t rfl rfl rfl rfl rfl rfl rfl ?_ | refine pick_f rfl rfl rfl rfl rfl rfl rfl ?_ | refine aw_seq ?_ | refine aw_region tab_ok _ rfl ?_ | refine aw_drawn2 tabS_ok _ rfl mixed (by decide +kernel) ?_ | refine aw_condT rfl ?_ | refine aw_condF rfl ?_ | refine aw_block ?_ | refine aw_exit ?_ | refine aw_ret ?_ | refine aw_skip ?_ | rw [List.length_map] | rw [mn_norm] | rw [mx_norm])
        exact ⟨_, rfl, fits_mk ⟨rfl, rfl, rfl, rfl, trivial⟩ [] rfl ⟨trivial, trivial, trivial, trivial, trivial⟩ trivial⟩
    · rw [q_3, cond_false] at hb1
      obtain rfl := Option.some.inj hb1
      have hx1 : gCmp8_K1 a_a a_b (.inl i_1) = some _ := hk1
      unfold gCmp8_K1 at hx1
      dsimp only at hx1
      rcases Bool.eq_false_or_eq_true (decide (((a_a.length : Nat) : Int) < ((a_b.length : Nat) : Int))) with q_8 | q_8
      · rw [q_8, cond_true] at hx1
        obtain rfl := Option.some.inj hx1
        exact go_
      · rw [q_8, cond_false] at hx1
        rcases Bool.eq_false_or_eq_true (decide (((a_b.length : Nat) : Int) < ((a_a.length : Nat) : Int))) with q_9 | q_9
        · rw [q_9, cond_true] at hx1
          obtain rfl := Option.some.inj hx1
          exact go_
        · rw [q_9, cond_false] at hx1
          obtain rfl := Option.some.inj hx1
          exact go_
  · rw [q_2, cond_false] at hb1
    obtain rfl := Option.some.inj hb1
    have hx1 : gCmp8_K1 a_a a_b (.inl i_1) = some _ := hk1
    unfold gCmp8_K1 at hx1
    dsimp only at hx1
    rcases Bool.eq_false_or_eq_true (decide (((a_a.length : Nat) : Int) < ((a_b.length : Nat) : Int))) with q_8 | q_8
    · rw [q_8, cond_true] at hx1
      obtain rfl := Option.some.inj hx1
      exact go_
    · rw [q_8, cond_false] at hx1
      rcases Bool.eq_false_or_eq_true (decide (((a_b.length : Nat) : Int) < ((a_a.length : Nat) : Int))) with q_9 | q_9
      · rw [q_9, cond_true] at hx1
        obtain rfl := Option.some.inj hx1
        exact go_
      · rw [q_9, cond_false] at hx1
        obtain rfl := Option.some.inj hx1
        exact go_
def gSameV (a_a : Ver) (a_b : Ver) : Option (Bool) := bif (decide (a_a.id = a_b.id)) then
  bif (decide (a_a.schema = a_b.schema)) then
    bif (sameS [.c (.int .i64 a_a.valid.lo), .c (.int .i64 a_a.valid.hi)] [.c (.int .i64 a_b.valid.lo), .c (.int .i64 a_b.valid.hi)]) then
      bif (sameS [.c (.int .i64 a_a.system.lo), .c (.int .i64 a_a.system.hi)] [.c (.int .i64 a_b.system.lo), .c (.int .i64 a_b.system.hi)]) then
        bif (decide (a_a.by_ = a_b.by_)) then
          bif (decide (a_a.til = a_b.til)) then
            (gCmp8 a_a.row a_b.row).bind fun r_7 => some (decide (r_7 = (0 : Int)))
          else
            some false
        else
          some false
      else
        some false
    else
      some false
  else
    some false
 else
  some false
theorem gSameV_ok {a_a : Ver} {a_b : Ver} {r : Bool} (H : gSameV a_a a_b = some r) : Pure Tryz.prog 30 [.agg (cVer a_a), .agg (cVer a_b)] (.val (.one (.bool r))) := by
  unfold gSameV at H
  refine pure_of_aw tab_ok Tryz.func30 rfl rfl Tryz.ntmps30 (by simp) ?_
  simp only [argT, PV.av, List.map_cons, List.map_nil]
  rcases Bool.eq_false_or_eq_true (decide (a_a.id = a_b.id)) with q_1 | q_1
  · rw [q_1, cond_true] at H
    rcases Bool.eq_false_or_eq_true (decide (a_a.schema = a_b.schema)) with q_2 | q_2
    · rw [q_2, cond_true] at H
      rcases Bool.eq_false_or_eq_true (sameS [.c (.int .i64 a_a.valid.lo), .c (.int .i64 a_a.valid.hi)] [.c (.int .i64 a_b.valid.lo), .c (.int .i64 a_b.valid.hi)]) with q_3 | q_3
      · rw [q_3, cond_true] at H
        rcases Bool.eq_false_or_eq_true (sameS [.c (.int .i64 a_a.system.lo), .c (.int .i64 a_a.system.hi)] [.c (.int .i64 a_b.system.lo), .c (.int .i64 a_b.system.hi)]) with q_4 | q_4
        · rw [q_4, cond_true] at H
          rcases Bool.eq_false_or_eq_true (decide (a_a.by_ = a_b.by_)) with q_5 | q_5
          · rw [q_5, cond_true] at H
            rcases Bool.eq_false_or_eq_true (decide (a_a.til = a_b.til)) with q_6 | q_6
            · rw [q_6, cond_true] at H
              obtain ⟨r_7, c1, H⟩ := bind_some H
              replace c1 := gCmp8_ok c1
              try simp only [List.map_append, List.map_cons, List.map_nil, List.nil_append, tE_eq, tP_eq] at c1
              obtain rfl := Option.some.inj H
              exact go_
            · rw [q_6, cond_false] at H
              obtain rfl := Option.some.inj H
              exact go_
          · rw [q_5, cond_false] at H
            obtain rfl := Option.some.inj H
            exact go_
        · rw [q_4, cond_false] at H
          obtain rfl := Option.some.inj H
          exact go_
      · rw [q_3, cond_false] at H
        obtain rfl := Option.some.inj H
        exact go_
    · rw [q_2, cond_false] at H
      obtain rfl := Option.some.inj H
      exact go_
  · rw [q_1, cond_false] at H
    obtain rfl := Option.some.inj H
    exact go_
def gSameVs_B1 (a_a : (List Ver)) (a_b : (List Ver)) : (Int) → Option (Step (Int) (Bool)) := fun s => match s with
  | i_2 => bif (decide (i_2 < ((a_a.length : Nat) : Int))) then
    (getI a_a i_2).bind fun x_4 => (getI a_b i_2).bind fun x_5 => (gSameV x_4 x_5).bind fun r_6 => bif (!r_6) then
      some (.ret false)
    else
      some (.next (IntKind.i64.wrap (i_2 + (1 : Int))))
  else
    some (.exit i_2)
def gSameVs_K1 : Sum (Int) (Bool) → Option ((Bool))
  | .inl i_2 => some true
  | .inr q => some q
def gSameVs (a_a : (List Ver)) (a_b : (List Ver)) : Option (Bool) := bif (decide (((a_a.length : Nat) : Int) ≠ ((a_b.length : Nat) : Int))) then
  some false
 else
  (loopM (gSameVs_B1 a_a a_b) fuel (0 : Int)).bind (gSameVs_K1)
theorem gSameVs_ok {a_a : (List Ver)} {a_b : (List Ver)} {r : Bool} (H : gSameVs a_a a_b = some r) : Pure Tryz.prog 12 [.one (.lst (a_a.map cVer)), .one (.lst (a_b.map cVer))] (.val (.one (.bool r))) := by
  unfold gSameVs at H
  refine pure_of_aw tab_ok Tryz.func12 rfl rfl Tryz.ntmps12 (by simp) ?_
  simp only [argT, PV.av, List.map_cons, List.map_nil]
  rcases Bool.eq_false_or_eq_true (decide (((a_a.length : Nat) : Int) ≠ ((a_b.length : Nat) : Int))) with q_1 | q_1
  · rw [q_1, cond_true] at H
    obtain rfl := Option.some.inj H
    exact go_
  · rw [q_1, cond_false] at H
    repeat' (first | refine p_ rfl rfl rfl rfl rfl ?_ | refine st_nil ?_ | refine x_ rfl rfl rfl rfl rfl rfl rfl rfl ?_ | refine l_ rfl rfl rfl rfl ?_ | refine s_ rfl rfl rfl ?_ | refine t_ rfl rfl rfl rfl ?_ | refine k_ rfl rfl rfl ?_ | refine k0_ rfl rfl ?_ | refine c_ rfl rfl rfl rfl ?_ | refine pick_t rfl rfl rfl rfl rfl rfl rfl ?_ | refine pick_f rfl rfl rfl rfl rfl rfl rfl ?_ | refine aw_seq ?_ | refine aw_region tab_ok _ rfl ?_ | refine aw_drawn2 tabS_ok _ rfl mixed (by decide +kernel) ?_ | refine aw_condT rfl ?_ | refine aw_condF rfl ?_ | refine aw_block ?_ | refine aw_exit ?_ | refine aw_ret ?_ | refine aw_skip ?_ | rw [List.length_map] | rw [mn_norm] | rw [mx_norm])
    refine aw_loopM (fun s : Int => match s with | i_2 => [(0, .one (.c (.lst (a_a.map cVer)))), (1, .one (.c (.lst (a_b.map cVer)))), (4, .one (.c (.bool false))), (5, .one (.c (.int .i64 i_2)))]) (fun s => match s with | i_2 => []) H (fun _ => Nat.zero_le _)
      (fits_mk ⟨rfl, rfl, rfl, rfl, trivial⟩ [] rfl ⟨trivial, trivial, trivial, trivial, trivial⟩ trivial) ?_
    rintro i_2 st1 hb1 hk1
    unfold gSameVs_B1 at hb1
    dsimp only at hb1 ⊢
    rcases Bool.eq_false_or_eq_true (decide (i_2 < ((a_a.length : Nat) : Int))) with q_3 | q_3
    · rw [q_3, cond_true] at hb1
      obtain ⟨x_4, i1, hb1⟩ := bind_some hb1
      obtain ⟨i1z, i1⟩ := getI_some i1
      have i1x := idxI (f := cVer) i1
      obtain ⟨x_5, i2, hb1⟩ := bind_some hb1
      obtain ⟨i2z, i2⟩ := getI_some i2
      have i2x := idxI (f := cVer) i2
      obtain ⟨r_6, c3, hb1⟩ := bind_some hb1
      replace c3 := gSameV_ok c3
      try simp only [List.map_append, List.map_cons, List.map_nil, List.nil_append, tE_eq, tP_eq] at c3
      rcases Bool.eq_false_or_eq_true (!r_6) with q_7 | q_7
      · rw [q_7, cond_true] at hb1
        obtain rfl := Option.some.inj hb1
        have hx1 : gSameVs_K1 (.inr false) = some _ := hk1
        unfold gSameVs_K1 at hx1
        dsimp only at hx1
        obtain rfl := Option.some.inj hx1
        exact go_
      · rw [q_7, cond_false] at hb1
        obtain rfl := Option.some.inj hb1
        repeat' (first | refine p_ rfl rfl rfl rfl rfl ?_ | refine st_nil ?_ | refine x_ rfl rfl rfl rfl rfl rfl rfl rfl ?_ | refine l_ rfl rfl rfl rfl ?_ | refine s_ rfl rfl rfl ?_ | refine t_ rfl rfl rfl rfl ?_ | refine k_ rfl rfl rfl ?_ | refine k0_ rfl rfl ?_ | refine c_ rfl rfl rfl rfl ?_ | refine pick_t rfl rfl rfl rfl rfl rfl rfl ?_ | refine pick_f rfl rfl rfl rfl rfl rfl rfl ?_ | refine aw_seq ?_ | refine aw_region tab_ok _ rfl ?_ | refine aw_drawn2 tabS_ok _ rfl mixed (by decide +kernel) ?_ | refine aw_condT rfl ?_ | refine aw_condF rfl ?_ | refine aw_block ?_ | refine aw_exit ?_ | refine aw_ret ?_ | refine aw_skip ?_ | rw [List.length_map] | rw [mn_norm] | rw [mx_norm])
        exact ⟨_, rfl, fits_mk ⟨rfl, rfl, rfl, rfl, trivial⟩ [] rfl ⟨trivial, trivial, trivial, trivial, trivial⟩ trivial⟩
    · rw [q_3, cond_false] at hb1
      obtain rfl := Option.some.inj hb1
      have hx1 : gSameVs_K1 (.inl i_2) = some _ := hk1
      unfold gSameVs_K1 at hx1
      dsimp only at hx1
      obtain rfl := Option.some.inj hx1
      exact go_
end Go.Proofs.YtnbnpnmkgemdeaaGreatDoor
namespace Go.Proofs.YtnbnpnmkgemdeaaGreatDoor
open Go.RowKit Go.MapKept
set_option maxRecDepth 100000
set_option linter.unusedVariables false
set_option linter.unusedSimpArgs false
theorem gICmp_eq (x y : Int) : gICmp x y = some (icmp x y) := by
  unfold gICmp gIsNaN icmp
  by_cases h1 : x < y
  · simp [h1]
  · by_cases h2 : y < x
    · simp [h1, h2]
    · simp [h1, h2]
def orS (_ : Unit) (x : Int) : Option (Sum Unit Int) := if x ≠ 0 then some (.inr x) else some (.inl ())
theorem gOr3 (a b c : Int) : gOr [a, b, c] = some (if a ≠ 0 then a else if b ≠ 0 then b else c) := by
  unfold gOr
  rw [loop_list (l := [a, b, c]) (mk := fun (_ : Unit) i => i) (f := orS) ?_ ?_ (by unfold fuel; simp) ()]
  · unfold orS
    by_cases h1 : a = 0
    · by_cases h2 : b = 0
      · by_cases h3 : c = 0
        · simp [foldS, foldR, gOr_K1, h1, h2, h3]
        · simp [foldS, foldR, gOr_K1, h1, h2, h3]
      · simp [foldS, foldR, gOr_K1, h1, h2]
    · simp [foldS, foldR, gOr_K1, h1]
  · intro s i x hx
    have hi : i < 3 := (List.getElem?_eq_some_iff.1 hx).1
    unfold gOr_B1 orS
    dsimp only
    rw [lt_dec hx, cond_true, getI_nat hx]
    simp only [Option.bind_some]
    rw [wrapN (by omega)]
    by_cases h : x = 0
    · simp [h, foldN]
    · simp [h, foldN]
  · intro s
    unfold gOr_B1
    dsimp only
    rw [lt_decF, cond_false]
theorem gVCmp_eq (v w : Val) : gVCmp v w = some (vcmp v w) := by
  unfold gVCmp
  rw [gICmp_eq, gICmp_eq]
  simp only [Option.bind_some]
  rw [gOr3]
  rfl
theorem rcmp_nil : ∀ (b : List Val), rcmp [] b = if b = [] then 0 else -1
  | [] => rfl
  | _ :: _ => rfl
theorem gCmpFn_at {a b : List Val} (ha : a.length ≤ 4000000000000) (hb : b.length ≤ 4000000000000) : ∀ (n i : Nat), i ≤ a.length → i ≤ b.length → a.length - i < n → (loopM (gCmpFn_B1 a b fun x0 x1 => gVCmp x0 x1) n (i : Int)).bind (gCmpFn_K1 a b) = some (rcmp (a.drop i) (b.drop i))
  | 0, _, _, _, h => by omega
  | n + 1, i, h1, h2, hn => by
    rw [loopM]
    by_cases hlt : i < a.length
    · obtain ⟨x, hx⟩ := get_of_lt hlt
      have ex := (List.getElem?_eq_some_iff.1 hx).2
      have eb : gCmpFn_B1 a b (fun x0 x1 => gVCmp x0 x1) (i : Int) = bif (decide (((b.length : Nat) : Int) ≤ (i : Int))) then some (.ret (1 : Int)) else (getI b (i : Int)).bind fun x_5 => (gVCmp x x_5).bind fun r_6 => bif (decide (r_6 ≠ (0 : Int))) then some (.ret r_6) else some (.next (IntKind.i64.wrap ((i : Int) + (1 : Int)))) := by
        unfold gCmpFn_B1
        dsimp only
        rw [lt_dec hx, cond_true, getI_nat hx]
        rfl
      rw [eb, List.drop_eq_getElem_cons hlt, ex]
      by_cases hlb : i < b.length
      · obtain ⟨y, hy⟩ := get_of_lt hlb
        have ey := (List.getElem?_eq_some_iff.1 hy).2
        rw [List.drop_eq_getElem_cons hlb, ey, show decide (((b.length : Nat) : Int) ≤ (i : Int)) = false from decide_eq_false (by omega), cond_false, getI_nat hy, rcmp]
        simp only [Option.bind_some, gVCmp_eq]
        by_cases h : vcmp x y = 0
        · simp only [h, ne_eq, not_true_eq_false, decide_false, cond_false, if_false]
          rw [wrapN (by omega)]
          have k := gCmpFn_at ha hb n (i + 1) (by omega) (by omega) (by omega)
          simp only [gVCmp_eq] at k
          exact k
        · simp [h, gCmpFn_K1]
      · have : i = b.length := by omega
        subst this
        rw [List.drop_length, show decide (((b.length : Nat) : Int) ≤ ((b.length : Nat) : Int)) = true from decide_eq_true (by omega), cond_true]
        rfl
    · have : i = a.length := by omega
      subst this
      have eb : gCmpFn_B1 a b (fun x0 x1 => gVCmp x0 x1) ((a.length : Nat) : Int) = some (.exit ((a.length : Nat) : Int)) := by
        unfold gCmpFn_B1
        dsimp only
        rw [lt_decF, cond_false]
      rw [eb, List.drop_length, rcmp_nil]
      show gCmpFn_K1 a b (.inl ((a.length : Nat) : Int)) = _
      unfold gCmpFn_K1
      by_cases h : a.length < b.length
      · rw [show decide (((a.length : Nat) : Int) < ((b.length : Nat) : Int)) = true from decide_eq_true (by omega), cond_true, if_neg (by rw [List.drop_eq_nil_iff]; omega)]
      · rw [show decide (((a.length : Nat) : Int) < ((b.length : Nat) : Int)) = false from decide_eq_false (by omega), cond_false, if_pos (by rw [List.drop_eq_nil_iff]; omega)]
theorem gTCmp_eq (a b : List Val) (ha : a.length ≤ 4000000000000) (hb : b.length ≤ 4000000000000) : gTCmp a b = some (rcmp a b) := by
  unfold gTCmp gCmpFn
  have := gCmpFn_at ha hb fuel 0 (Nat.zero_le _) (Nat.zero_le _) (by unfold fuel; omega)
  rw [show (((0 : Nat) : Int)) = 0 from rfl] at this
  rw [this]; rfl
theorem bytesLess_eq : ∀ a b : List UInt8, Op.bytesLess a b = decide (Lib.compareBytes a b < 0) ∧ (a == b) = decide (Lib.compareBytes a b = 0)
  | [], [] => ⟨rfl, rfl⟩
  | [], _ :: _ => ⟨rfl, rfl⟩
  | _ :: _, [] => ⟨rfl, rfl⟩
  | x :: a, y :: b => by
    have e2 : Lib.compareBytes (x :: a) (y :: b) = if x < y then -1 else if y < x then 1 else Lib.compareBytes a b := by rw [Lib.compareBytes]
    have e3 : Op.bytesLess (x :: a) (y :: b) = (decide (x < y) || (x == y && Op.bytesLess a b)) := by rw [Op.bytesLess]
    obtain ⟨i1, i2⟩ := bytesLess_eq a b
    rw [e2, e3, List.cons_beq_cons, i1, i2]
    by_cases h1 : x < y
    · have hne : x ≠ y := fun e => by rw [e] at h1; exact absurd h1 (UInt8.lt_irrefl y)
      simp [h1, hne]
    · by_cases h2 : y < x
      · have hne : x ≠ y := fun e => by rw [e] at h2; exact absurd h2 (UInt8.lt_irrefl y)
        simp [h1, h2, hne]
      · have heq : x = y := UInt8.le_antisymm (UInt8.not_lt.1 h2) (UInt8.not_lt.1 h1)
        subst heq
        simp [h1]
theorem less_scmp (a b : ByteArray) : Op.bytesLess a.toList b.toList = decide (scmp a b < 0) := by
  unfold scmp
  rw [Lib.cmp_eq, ByteArray.toList_eq, ByteArray.toList_eq]; exact (bytesLess_eq _ _).1
theorem eq_scmp (a b : ByteArray) : (a.toList == b.toList) = decide (scmp a b = 0) := by
  unfold scmp
  rw [Lib.cmp_eq, ByteArray.toList_eq, ByteArray.toList_eq]; exact (bytesLess_eq _ _).2
theorem compareBytes_range : ∀ a b : List UInt8, Lib.compareBytes a b = -1 ∨ Lib.compareBytes a b = 0 ∨ Lib.compareBytes a b = 1
  | [], [] => .inr (.inl rfl)
  | [], _ :: _ => .inl rfl
  | _ :: _, [] => .inr (.inr rfl)
  | x :: a, y :: b => by
    have e2 : Lib.compareBytes (x :: a) (y :: b) = if x < y then -1 else if y < x then 1 else Lib.compareBytes a b := by rw [Lib.compareBytes]
    rw [e2]
    split
    · exact .inl rfl
    · split
      · exact .inr (.inr rfl)
      · exact compareBytes_range a b
theorem gCmp7_eq (v w : Val) : gCmp7 v w = some (vcmp v w) := by
  unfold gCmp7 vcmp gSign
  rw [less_scmp, eq_scmp]
  have hr : scmp v.text w.text = -1 ∨ scmp v.text w.text = 0 ∨ scmp v.text w.text = 1 := by unfold scmp; rw [Lib.cmp_eq]; exact compareBytes_range _ _
  by_cases h1 : v.kind = w.kind
  · have e1 : icmp v.kind w.kind = 0 := by rw [h1]; exact totC_icmp.refl _
    by_cases h2 : v.int = w.int
    · have e2 : icmp v.int w.int = 0 := by rw [h2]; exact totC_icmp.refl _
      rw [e1, e2]
      simp only [h1, h2, ne_eq, not_true_eq_false, decide_false, cond_false, if_false]
      rcases hr with h | h | h <;> rw [h] <;> rfl
    · have e2 : icmp v.int w.int ≠ 0 := fun e => h2 (totC_icmp.zero _ _ e)
      rw [e1]
      simp only [h1, h2, e2, ne_eq, not_true_eq_false, not_false_eq_true, decide_false, decide_true, cond_false, cond_true, if_false, if_true]
      unfold icmp
      by_cases h3 : v.int < w.int
      · simp [h3]
      · have : w.int < v.int := by omega
        simp [h3, this]
  · have e1 : icmp v.kind w.kind ≠ 0 := fun e => h1 (totC_icmp.zero _ _ e)
    simp only [h1, e1, ne_eq, not_true_eq_false, not_false_eq_true, decide_false, decide_true, cond_false, cond_true, if_false, if_true]
    unfold icmp
    by_cases h3 : v.kind < w.kind
    · simp [h3]
    · have : w.kind < v.kind := by omega
      simp [h3, this]
theorem gCmp8_at {a b : List Val} (ha : a.length ≤ 4000000000000) (hb : b.length ≤ 4000000000000) : ∀ (n i : Nat), i ≤ a.length → i ≤ b.length → a.length - i < n → (loopM (gCmp8_B1 a b) n (i : Int)).bind (gCmp8_K1 a b) = some (rcmp (a.drop i) (b.drop i))
  | 0, _, _, _, h => by omega
  | n + 1, i, h1, h2, hn => by
    rw [loopM]
    by_cases hlt : i < a.length
    · obtain ⟨x, hx⟩ := get_of_lt hlt
      have ex := (List.getElem?_eq_some_iff.1 hx).2
      rw [List.drop_eq_getElem_cons hlt, ex]
      by_cases hlb : i < b.length
      · obtain ⟨y, hy⟩ := get_of_lt hlb
        have ey := (List.getElem?_eq_some_iff.1 hy).2
        have eb : gCmp8_B1 a b (i : Int) = bif (decide (vcmp x y ≠ (0 : Int))) then some (.ret (vcmp x y)) else some (.next (IntKind.i64.wrap ((i : Int) + (1 : Int)))) := by
          unfold gCmp8_B1
          dsimp only
          rw [lt_dec hx, cond_true, lt_dec hy, cond_true, getI_nat hx, getI_nat hy]
          simp only [Option.bind_some, gCmp7_eq]
        rw [eb, List.drop_eq_getElem_cons hlb, ey, rcmp]
        by_cases h : vcmp x y = 0
        · simp only [h, ne_eq, not_true_eq_false, decide_false, cond_false, if_false]
          rw [wrapN (by omega)]
          exact gCmp8_at ha hb n (i + 1) (by omega) (by omega) (by omega)
        · simp [h, gCmp8_K1]
      · have : i = b.length := by omega
        subst this
        have eb : gCmp8_B1 a b ((b.length : Nat) : Int) = some (.exit ((b.length : Nat) : Int)) := by
          unfold gCmp8_B1
          dsimp only
          rw [lt_dec hx, cond_true, lt_decF, cond_false]
        rw [eb, List.drop_length]
        show gCmp8_K1 a b (.inl ((b.length : Nat) : Int)) = _
        unfold gCmp8_K1
        rw [show decide (((a.length : Nat) : Int) < ((b.length : Nat) : Int)) = false from decide_eq_false (by omega), cond_false, show decide (((b.length : Nat) : Int) < ((a.length : Nat) : Int)) = true from decide_eq_true (by omega), cond_true]
        rfl
    · have : i = a.length := by omega
      subst this
      have eb : gCmp8_B1 a b ((a.length : Nat) : Int) = some (.exit ((a.length : Nat) : Int)) := by
        unfold gCmp8_B1
        dsimp only
        rw [lt_decF, cond_false]
      rw [eb, List.drop_length, rcmp_nil]
      show gCmp8_K1 a b (.inl ((a.length : Nat) : Int)) = _
      unfold gCmp8_K1
      by_cases h : a.length < b.length
      · rw [show decide (((a.length : Nat) : Int) < ((b.length : Nat) : Int)) = true from decide_eq_true (by omega), cond_true, if_neg (by rw [List.drop_eq_nil_iff]; omega)]
      · rw [show decide (((a.length : Nat) : Int) < ((b.length : Nat) : Int)) = false from decide_eq_false (by omega), cond_false, show decide (((b.length : Nat) : Int) < ((a.length : Nat) : Int)) = false from decide_eq_false (by omega), cond_false, if_pos (by rw [List.drop_eq_nil_iff]; omega)]
theorem gCmp8_eq (a b : List Val) (ha : a.length ≤ 4000000000000) (hb : b.length ≤ 4000000000000) : gCmp8 a b = some (rcmp a b) := by
  unfold gCmp8
  have := gCmp8_at ha hb fuel 0 (Nat.zero_le _) (Nat.zero_le _) (by unfold fuel; omega)
  rw [show (((0 : Nat) : Int)) = 0 from rfl] at this
  rw [this]; rfl
end Go.Proofs.YtnbnpnmkgemdeaaGreatDoor
namespace Go.Proofs.YtnbnpnmkgemdeaaGreatDoor
open Go.RowKit Go.MapKept
set_option maxRecDepth 100000
set_option maxHeartbeats 8000000
set_option linter.unusedVariables false
set_option linter.unusedSimpArgs false
def gRowsC (a_a : SGroupcoalesce) (a_b : SGroupcoalesce) : Option (Int) := (gTCmp a_a.row a_b.row).bind fun r_1 => some r_1
theorem gRowsC_ok {a_a : SGroupcoalesce} {a_b : SGroupcoalesce} {r : Int} (H : gRowsC a_a a_b = some r) : Pure Tryz.prog 141 [.agg (cSGroupcoalesce a_a), .agg (cSGroupcoalesce a_b)] (.val (.one (.int .i64 r))) := by
  unfold gRowsC at H
  refine pure_of_aw tab_ok Tryz.func141 rfl rfl Tryz.ntmps141 (by simp) ?_
  simp only [argT, PV.av, List.map_cons, List.map_nil]
  obtain ⟨r_1, c1, H⟩ := bind_some H
  replace c1 := gTCmp_ok c1
  try simp only [List.map_append, List.map_cons, List.map_nil, List.nil_append, tE_eq, tP_eq] at c1
  obtain rfl := Option.some.inj H
  exact go_
theorem gRowsC_eq (a b : SGroupcoalesce) (ha : a.row.length ≤ 4000000000000) (hb : b.row.length ≤ 4000000000000) : gRowsC a b = some (rcmp a.row b.row) := by
  unfold gRowsC
  rw [gTCmp_eq _ _ ha hb]; rfl
def posT {α : Type} (c : α → α → Int) (A : List α) (x : α) : Nat → Nat
  | 0 => 0
  | j + 1 => match A[j]? with
    | some y => if c x y < 0 then posT c A x j else j + 1
    | none => j + 1
def insT {α : Type} (c : α → α → Int) (A : List α) (x : α) : List α := A.take (posT c A x A.length) ++ x :: A.drop (posT c A x A.length)
def sortT {α : Type} (c : α → α → Int) (l : List α) : List α := l.foldl (insT c) []
theorem posT_spec {α : Type} (c : α → α → Int) (B : List α) (x : α) : ∀ j, j ≤ B.length → posT c B x j ≤ j ∧ (∀ i y, posT c B x j ≤ i → i < j → B[i]? = some y → c x y < 0) ∧ (∀ q, posT c B x j = q + 1 → ∃ y, B[q]? = some y ∧ ¬ c x y < 0)
  | 0, _ => ⟨Nat.le_refl _, fun i y _ h => by omega, fun q h => by simp [posT] at h⟩
  | j + 1, hj => by
    obtain ⟨y, hy⟩ := get_of_lt (show j < B.length by omega)
    obtain ⟨h1, h2, h3⟩ := posT_spec c B x j (by omega)
    unfold posT
    simp only [hy]
    split
    · rename_i hlt
      refine ⟨by omega, fun i z hi hij hz => ?_, h3⟩
      by_cases e : i = j
      · subst e; rw [hy] at hz; injection hz with hz; subst hz; exact hlt
      · exact h2 i z hi (by omega) hz
    · rename_i hge
      exact ⟨Nat.le_refl _, fun i z hi hij _ => by omega, fun q hq => by injection hq with hq; subst hq; exact ⟨y, hy, hge⟩⟩
theorem insT_perm {α : Type} (c : α → α → Int) (B : List α) (x : α) : (insT c B x).Perm (x :: B) := by
  unfold insT
  refine List.perm_middle.trans ?_
  rw [List.take_append_drop]
theorem foldl_insT_perm {α : Type} (c : α → α → Int) : ∀ (l B : List α), (l.foldl (insT c) B).Perm (l ++ B)
  | [], B => List.Perm.refl _
  | x :: l, B => by
    rw [List.foldl_cons]
    refine (foldl_insT_perm c l (insT c B x)).trans ?_
    refine ((insT_perm c B x).append_left l).trans ?_
    exact List.perm_middle
theorem sortT_perm {α : Type} (c : α → α → Int) (l : List α) : (sortT c l).Perm l := by
  have := foldl_insT_perm c l []
  simpa [sortT] using this
theorem insT_asc {α : Type} {c : α → α → Int} (htr : ∀ a b d, c a b ≤ 0 → c b d ≤ 0 → c a d ≤ 0) (htot : ∀ a b, ¬ c a b < 0 → c b a ≤ 0) {B : List α} (x : α) (h : B.Pairwise fun a b => c a b ≤ 0) : (insT c B x).Pairwise fun a b => c a b ≤ 0 := by
  obtain ⟨h1, h2, h3⟩ := posT_spec c B x B.length (Nat.le_refl _)
  unfold insT
  generalize posT c B x B.length = p at h1 h2 h3
  have hd : ∀ y ∈ B.drop p, c x y ≤ 0 := by
    intro y hy
    obtain ⟨i, hi⟩ := List.getElem?_of_mem hy
    rw [List.getElem?_drop] at hi
    have := (List.getElem?_eq_some_iff.1 hi).1
    have := h2 (p + i) y (by omega) this hi
    omega
  have ht : ∀ y ∈ B.take p, c y x ≤ 0 := by
    intro y hy
    cases p with
    | zero => simp at hy
    | succ q =>
      obtain ⟨z, hz, hge⟩ := h3 q rfl
      have hzx := htot x z hge
      obtain ⟨i, hi⟩ := List.getElem?_of_mem hy
      have hil : i < q + 1 := by have := (List.getElem?_eq_some_iff.1 hi).1; rw [List.length_take] at this; omega
      rw [List.getElem?_take_of_lt hil] at hi
      by_cases e : i = q
      · subst e; rw [hi] at hz; injection hz with hz; subst hz; exact hzx
      · have hlt : i < q := by omega
        have hi' := List.getElem?_eq_some_iff.1 hi
        have hz' := List.getElem?_eq_some_iff.1 hz
        have := List.pairwise_iff_getElem.1 h i q hi'.1 hz'.1 hlt
        rw [hi'.2, hz'.2] at this
        exact htr _ _ _ this hzx
  refine List.pairwise_append.2 ⟨h.sublist (List.take_sublist _ _), List.pairwise_cons.2 ⟨hd, h.sublist (List.drop_sublist _ _)⟩, fun a ha b hb => ?_⟩
  rcases List.mem_cons.1 hb with rfl | hb
  · exact ht a ha
  · exact htr _ _ _ (ht a ha) (hd b hb)
theorem sortT_asc {α : Type} {c : α → α → Int} (htr : ∀ a b d, c a b ≤ 0 → c b d ≤ 0 → c a d ≤ 0) (htot : ∀ a b, ¬ c a b < 0 → c b a ≤ 0) (l : List α) : (sortT c l).Pairwise fun a b => c a b ≤ 0 := by
  have : ∀ (l B : List α), (B.Pairwise fun a b => c a b ≤ 0) → (l.foldl (insT c) B).Pairwise fun a b => c a b ≤ 0 := by
    intro l
    induction l with
    | nil => intro B h; exact h
    | cons x l ih => intro B h; exact ih _ (insT_asc htr htot x h)
  exact this l [] List.Pairwise.nil
abbrev cmpSG (a b : SGroupcoalesce) : Int := rcmp a.row b.row
abbrev encSG (s : SGroupcoalesce) : AC2 := (tRow s.row, .lst (s.periods.map cPer))
abbrev tcmpG (x y : AC2) : Int := tcmp x.1 y.1
theorem tcmpG_enc (a b : SGroupcoalesce) : tcmpG (encSG a) (encSG b) = cmpSG a b := by
  show rcmp ((a.row.map cV).map vOf) ((b.row.map cV).map vOf) = _
  rw [vOf_cV, vOf_cV]
theorem posFG_enc (B : List SGroupcoalesce) (x : SGroupcoalesce) : ∀ j, posFG tcmpG (B.map encSG) (encSG x) j = posT cmpSG B x j
  | 0 => rfl
  | j + 1 => by
    rw [posFG, posT, List.getElem?_map]
    cases B[j]? with
    | none => rfl
    | some y =>
      simp only [Option.map_some]
      rw [tcmpG_enc, posFG_enc B x j]
theorem insRG_enc (B : List SGroupcoalesce) (x : SGroupcoalesce) : insRG tcmpG (B.map encSG) (encSG x) = (insT cmpSG B x).map encSG := by
  unfold insRG insT
  rw [List.length_map, posFG_enc, List.map_append, List.map_cons, List.map_take, List.map_drop]
theorem isortG_enc (l : List SGroupcoalesce) : isortG tcmpG (l.map encSG) = (sortT cmpSG l).map encSG := by
  have : ∀ (l B : List SGroupcoalesce), (l.map encSG).foldl (insRG tcmpG) (B.map encSG) = (l.foldl (insT cmpSG) B).map encSG := by
    intro l
    induction l with
    | nil => intro B; rfl
    | cons x l ih => intro B; rw [List.map_cons, List.foldl_cons, List.foldl_cons, insRG_enc, ih]
  exact this l []
theorem rfG3 {L : List Ob} {v k : Nat} {l : List AC2} {x : AV} {xs : List AV} (h0 : L[3]? = some (Ob.row v (l.map gCG) k)) (hx : ∀ y ∈ x :: xs, y.below 1) : RunFits [3] [Ob.row v (l.map gCG) k] (x :: xs) L := by
  refine ⟨rfl, by simp, fun i y hy => ?_, mem_below ⟨rowC_belowG _ _ _ _, trivial⟩, hx⟩
  match i, hy with
  | 0, hy => simp at hy; subst hy; rw [row_renG]; exact h0
  | i + 1, hy => simp at hy
theorem jG3 {L L' : List Ob} {v k : Nat} {l : List AC2} (h : L.set 3 (Ob.row v (l.map gCG) k) = L') : joinL [3] L [Ob.row v (l.map gCG) k] = L' := by
  subst h
  simp [joinL, join, setAll, outIds, newIds, row_renG]
def rowsP (l : List Fct) : List SGroupcoalesce := sortT cmpSG ((gfoldC l).map fun g => ⟨g.f.row, g.ps⟩)
theorem stable_nil : Pure Tryz.prog 140 [.one (.lst []), .one (.fn 141 [])] (.tup []) := (evF_ok cx_ok 40).1 _ _ _ (by kernel_rfl)
end Go.Proofs.YtnbnpnmkgemdeaaGreatDoor
