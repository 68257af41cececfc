/- Parts of the proof, joined. No condition. -/
import Derived.Test.YtfccopdbgfdcdaaGreatDoorKBH
import Derived.Test.YtfccopdbgfdcdaaGreatDoorKAM
import Derived.Test.YtfccopdbgfdcdaaGreatDoorKAI
set_option linter.unusedSimpArgs false
set_option linter.unusedVariables false
namespace Go.Proofs.YtfccopdbgfdcdaaGreatDoor
open Go.RowKit Go.MapKept
set_option maxRecDepth 100000
set_option maxHeartbeats 8000000
set_option linter.unusedVariables false
set_option linter.unusedSimpArgs false
def gNullR : Option (Val) := some (⟨(0 : Int), (0 : Int), ByteArray.empty⟩ : Val)
theorem gNullR_ok {r : Val} (H : gNullR = some r) : Pure Tryz.prog 109 [] (.val (.agg (cV r))) := by
  unfold gNullR at H
  refine pure_of_aw tab_ok Tryz.func109 rfl rfl Tryz.ntmps109 (by simp) ?_
  simp only [argT, PV.av, List.map_cons, List.map_nil]
  obtain rfl := Option.some.inj H
  exact go_
def gPrintable_B1 (a_s : ByteArray) : (Int) → Option (Step (Int) (Bool)) := fun s => match s with
  | i_1 => bif (decide (i_1 < ((a_s.size : Nat) : Int))) then
    (getB a_s i_1).bind fun b_3 => bif (decide (((b_3.toNat : Nat) : Int) < (32 : Int))) then
      some (.ret false)
    else
      bif (decide ((126 : Int) < ((b_3.toNat : Nat) : Int))) then
        some (.ret false)
      else
        some (.next (IntKind.i64.wrap (i_1 + (1 : Int))))
  else
    some (.exit i_1)
def gPrintable_K1 : Sum (Int) (Bool) → Option ((Bool))
  | .inl i_1 => some true
  | .inr q => some q
def gPrintable (a_s : ByteArray) : Option (Bool) := (loopM (gPrintable_B1 a_s) fuel (0 : Int)).bind (gPrintable_K1)
theorem gPrintable_ok {a_s : ByteArray} {r : Bool} (H : gPrintable a_s = some r) : Pure Tryz.prog 152 [.one (.str a_s)] (.val (.one (.bool r))) := by
  unfold gPrintable at H
  refine pure_of_aw tab_ok Tryz.func152 rfl rfl Tryz.ntmps152 (by simp) ?_
  simp only [argT, PV.av, List.map_cons, List.map_nil]
  repeat' (first | refine p_ rfl rfl rfl rfl rfl ?_ | refine st_nil ?_ | refine x_ rfl rfl rfl rfl rfl rfl rfl rfl ?_ | refine l_ rfl rfl rfl rfl ?_ | refine s_ rfl rfl rfl ?_ | refine t5_ rfl rfl rfl rfl ?_ | refine k_ rfl rfl rfl ?_ | refine k0_ rfl rfl ?_ | refine c_ rfl rfl rfl rfl ?_ | refine pick_t rfl rfl rfl rfl rfl rfl rfl ?_ | refine pick_f rfl rfl rfl rfl rfl rfl rfl ?_ | refine aw_seq ?_ | refine aw_region tab_ok _ rfl ?_ | refine aw_drawn2 tabS_ok _ rfl mixed (by decide +kernel) ?_ | refine aw_condT rfl ?_ | refine aw_condF rfl ?_ | refine aw_block ?_ | refine aw_exit ?_ | refine aw_ret ?_ | refine aw_skip ?_ | rw [List.length_map] | rw [mn_norm] | rw [mx_norm] | refine b_ rfl rfl rfl rfl rfl rfl rfl ?_)
  refine aw_loopM (fun s : Int => match s with | i_1 => [(0, .one (.c (.str a_s))), (3, .one (.c (.int .i64 i_1)))]) (fun s => match s with | i_1 => []) H (fun _ => Nat.zero_le _)
    (fits_mk ⟨rfl, rfl, trivial⟩ [] rfl ⟨trivial, trivial, trivial⟩ trivial) ?_
  rintro i_1 st1 hb1 hk1
  unfold gPrintable_B1 at hb1
  dsimp only at hb1 ⊢
  rcases Bool.eq_false_or_eq_true (decide (i_1 < ((a_s.size : Nat) : Int))) with q_2 | q_2
  · rw [q_2, cond_true] at hb1
    obtain ⟨b_3, i1, hb1⟩ := bind_some hb1
    obtain ⟨i1z, i1⟩ := getB_some i1
    rcases Bool.eq_false_or_eq_true (decide (((b_3.toNat : Nat) : Int) < (32 : Int))) with q_4 | q_4
    · rw [q_4, cond_true] at hb1
      obtain rfl := Option.some.inj hb1
      have hx1 : gPrintable_K1 (.inr false) = some _ := hk1
      unfold gPrintable_K1 at hx1
      dsimp only at hx1
      obtain rfl := Option.some.inj hx1
      repeat' (first | refine p_ rfl rfl rfl rfl rfl ?_ | refine st_nil ?_ | refine x_ rfl rfl rfl rfl rfl rfl rfl rfl ?_ | refine l_ rfl rfl rfl rfl ?_ | refine s_ rfl rfl rfl ?_ | refine t5_ rfl rfl rfl rfl ?_ | refine k_ rfl rfl rfl ?_ | refine k0_ rfl rfl ?_ | refine c_ rfl rfl rfl rfl ?_ | refine pick_t rfl rfl rfl rfl rfl rfl rfl ?_ | refine pick_f rfl rfl rfl rfl rfl rfl rfl ?_ | refine aw_seq ?_ | refine aw_region tab_ok _ rfl ?_ | refine aw_drawn2 tabS_ok _ rfl mixed (by decide +kernel) ?_ | refine aw_condT rfl ?_ | refine aw_condF rfl ?_ | refine aw_block ?_ | refine aw_exit ?_ | refine aw_ret ?_ | refine aw_skip ?_ | rw [List.length_map] | rw [mn_norm] | rw [mx_norm] | refine b_ rfl rfl rfl rfl rfl rfl rfl ?_)
      refine end_ret (res_of rfl ?_ ?_)
      · repeat' (first | exact trivial | rfl | exact Nat.le_of_ble_eq_true rfl | omega | apply And.intro)
      · first | rfl | (simp only [List.map_append, List.map_cons, List.map_nil, List.nil_append] <;> rfl)
    · rw [q_4, cond_false] at hb1
      rcases Bool.eq_false_or_eq_true (decide ((126 : Int) < ((b_3.toNat : Nat) : Int))) with q_5 | q_5
      · rw [q_5, cond_true] at hb1
        obtain rfl := Option.some.inj hb1
        have hx1 : gPrintable_K1 (.inr false) = some _ := hk1
        unfold gPrintable_K1 at hx1
        dsimp only at hx1
        obtain rfl := Option.some.inj hx1
        repeat' (first | refine p_ rfl rfl rfl rfl rfl ?_ | refine st_nil ?_ | refine x_ rfl rfl rfl rfl rfl rfl rfl rfl ?_ | refine l_ rfl rfl rfl rfl ?_ | refine s_ rfl rfl rfl ?_ | refine t5_ rfl rfl rfl rfl ?_ | refine k_ rfl rfl rfl ?_ | refine k0_ rfl rfl ?_ | refine c_ rfl rfl rfl rfl ?_ | refine pick_t rfl rfl rfl rfl rfl rfl rfl ?_ | refine pick_f rfl rfl rfl rfl rfl rfl rfl ?_ | refine aw_seq ?_ | refine aw_region tab_ok _ rfl ?_ | refine aw_drawn2 tabS_ok _ rfl mixed (by decide +kernel) ?_ | refine aw_condT rfl ?_ | refine aw_condF rfl ?_ | refine aw_block ?_ | refine aw_exit ?_ | refine aw_ret ?_ | refine aw_skip ?_ | rw [List.length_map] | rw [mn_norm] | rw [mx_norm] | refine b_ rfl rfl rfl rfl rfl rfl rfl ?_)
        refine end_ret (res_of rfl ?_ ?_)
        · repeat' (first | exact trivial | rfl | exact Nat.le_of_ble_eq_true rfl | omega | apply And.intro)
        · first | rfl | (simp only [List.map_append, List.map_cons, List.map_nil, List.nil_append] <;> rfl)
      · rw [q_5, cond_false] at hb1
        obtain rfl := Option.some.inj hb1
        repeat' (first | refine p_ rfl rfl rfl rfl rfl ?_ | refine st_nil ?_ | refine x_ rfl rfl rfl rfl rfl rfl rfl rfl ?_ | refine l_ rfl rfl rfl rfl ?_ | refine s_ rfl rfl rfl ?_ | refine t5_ rfl rfl rfl rfl ?_ | refine k_ rfl rfl rfl ?_ | refine k0_ rfl rfl ?_ | refine c_ rfl rfl rfl rfl ?_ | refine pick_t rfl rfl rfl rfl rfl rfl rfl ?_ | refine pick_f rfl rfl rfl rfl rfl rfl rfl ?_ | refine aw_seq ?_ | refine aw_region tab_ok _ rfl ?_ | refine aw_drawn2 tabS_ok _ rfl mixed (by decide +kernel) ?_ | refine aw_condT rfl ?_ | refine aw_condF rfl ?_ | refine aw_block ?_ | refine aw_exit ?_ | refine aw_ret ?_ | refine aw_skip ?_ | rw [List.length_map] | rw [mn_norm] | rw [mx_norm] | refine b_ rfl rfl rfl rfl rfl rfl rfl ?_)
        exact ⟨_, rfl, fits_mk ⟨rfl, rfl, trivial⟩ [] rfl ⟨trivial, trivial, trivial⟩ trivial⟩
  · rw [q_2, cond_false] at hb1
    obtain rfl := Option.some.inj hb1
    have hx1 : gPrintable_K1 (.inl i_1) = some _ := hk1
    unfold gPrintable_K1 at hx1
    dsimp only at hx1
    obtain rfl := Option.some.inj hx1
    exact go_
def gValidR (a_v : Val) : Option (Bool) := bif (decide (a_v.kind = (0 : Int))) then
  bif (decide (a_v.int = (0 : Int))) then
    some (a_v.text.toList == (⟨#[]⟩ : ByteArray).toList)
  else
    some false
 else
  bif (decide (a_v.kind = (1 : Int))) then
    bif (a_v.text.toList == (⟨#[]⟩ : ByteArray).toList) then
      bif (decide ((-1125899906842624 : Int) ≤ a_v.int)) then
        some (decide (a_v.int ≤ (1125899906842624 : Int)))
      else
        some false
    else
      some false
  else
    bif (decide (a_v.kind = (2 : Int))) then
      bif (decide (a_v.int = (0 : Int))) then
        bif (decide (((a_v.text.size : Nat) : Int) ≤ (200 : Int))) then
          (gPrintable a_v.text).bind fun r_9 => some r_9
        else
          some false
      else
        some false
    else
      bif (decide (a_v.kind = (3 : Int))) then
        bif (a_v.text.toList == (⟨#[]⟩ : ByteArray).toList) then
          bif (decide (a_v.int = (0 : Int))) then
            some true
          else
            some (decide (a_v.int = (1 : Int)))
        else
          some false
      else
        some false
theorem gValidR_ok {a_v : Val} {r : Bool} (H : gValidR a_v = some r) : Pure Tryz.prog 105 [.agg (cV a_v)] (.val (.one (.bool r))) := by
  unfold gValidR at H
  refine pure_of_aw tab_ok Tryz.func105 rfl rfl Tryz.ntmps105 (by simp) ?_
  simp only [argT, PV.av, List.map_cons, List.map_nil]
  rcases Bool.eq_false_or_eq_true (decide (a_v.kind = (0 : Int))) with q_1 | q_1
  · rw [q_1, cond_true] at H
    rcases Bool.eq_false_or_eq_true (decide (a_v.int = (0 : Int))) with q_2 | q_2
    · rw [q_2, cond_true] at H
      obtain rfl := Option.some.inj H
      exact go_
    · rw [q_2, cond_false] at H
      obtain rfl := Option.some.inj H
      exact go_
  · rw [q_1, cond_false] at H
    rcases Bool.eq_false_or_eq_true (decide (a_v.kind = (1 : Int))) with q_3 | q_3
    · rw [q_3, cond_true] at H
      rcases Bool.eq_false_or_eq_true (a_v.text.toList == (⟨#[]⟩ : ByteArray).toList) with q_4 | q_4
      · rw [q_4, cond_true] at H
        rcases Bool.eq_false_or_eq_true (decide ((-1125899906842624 : Int) ≤ a_v.int)) with q_5 | q_5
        · rw [q_5, cond_true] at H
          obtain rfl := Option.some.inj H
          exact go_
        · rw [q_5, cond_false] at H
          obtain rfl := Option.some.inj H
          exact go_
      · rw [q_4, cond_false] at H
        obtain rfl := Option.some.inj H
        exact go_
    · rw [q_3, cond_false] at H
      rcases Bool.eq_false_or_eq_true (decide (a_v.kind = (2 : Int))) with q_6 | q_6
      · rw [q_6, cond_true] at H
        rcases Bool.eq_false_or_eq_true (decide (a_v.int = (0 : Int))) with q_7 | q_7
        · rw [q_7, cond_true] at H
          rcases Bool.eq_false_or_eq_true (decide (((a_v.text.size : Nat) : Int) ≤ (200 : Int))) with q_8 | q_8
          · rw [q_8, cond_true] at H
            obtain ⟨r_9, c1, H⟩ := bind_some H
            replace c1 := gPrintable_ok c1
            try simp only [List.map_append, List.map_cons, List.map_nil, List.nil_append, tE_eq] at c1
            obtain rfl := Option.some.inj H
            exact go_
          · rw [q_8, cond_false] at H
            obtain rfl := Option.some.inj H
            exact go_
        · rw [q_7, cond_false] at H
          obtain rfl := Option.some.inj H
          exact go_
      · rw [q_6, cond_false] at H
        rcases Bool.eq_false_or_eq_true (decide (a_v.kind = (3 : Int))) with q_10 | q_10
        · rw [q_10, cond_true] at H
          rcases Bool.eq_false_or_eq_true (a_v.text.toList == (⟨#[]⟩ : ByteArray).toList) with q_11 | q_11
          · rw [q_11, cond_true] at H
            rcases Bool.eq_false_or_eq_true (decide (a_v.int = (0 : Int))) with q_12 | q_12
            · rw [q_12, cond_true] at H
              obtain rfl := Option.some.inj H
              exact go_
            · rw [q_12, cond_false] at H
              obtain rfl := Option.some.inj H
              exact go_
          · rw [q_11, cond_false] at H
            obtain rfl := Option.some.inj H
            exact go_
        · rw [q_10, cond_false] at H
          obtain rfl := Option.some.inj H
          exact go_
def gAtR (a_row : (List Val)) (a_i : Int) : Option (Val) := bif (decide (a_i < (0 : Int))) then
  (gNullR ).bind fun r_2 => some r_2
 else
  bif (decide (((a_row.length : Nat) : Int) ≤ a_i)) then
    (gNullR ).bind fun r_4 => some r_4
  else
    (getI a_row a_i).bind fun x_5 => some x_5
theorem gAtR_ok {a_row : (List Val)} {a_i : Int} {r : Val} (H : gAtR a_row a_i = some r) : Pure Tryz.prog 153 [.one (.lst (a_row.map cV)), .one (.int .i64 a_i)] (.val (.agg (cV r))) := by
  unfold gAtR at H
  refine pure_of_aw tab_ok Tryz.func153 rfl rfl Tryz.ntmps153 (by simp) ?_
  simp only [argT, PV.av, List.map_cons, List.map_nil]
  rcases Bool.eq_false_or_eq_true (decide (a_i < (0 : Int))) with q_1 | q_1
  · rw [q_1, cond_true] at H
    obtain ⟨r_2, c1, H⟩ := bind_some H
    replace c1 := gNullR_ok c1
    try simp only [List.map_append, List.map_cons, List.map_nil, List.nil_append, tE_eq] at c1
    obtain rfl := Option.some.inj H
    exact go_
  · rw [q_1, cond_false] at H
    rcases Bool.eq_false_or_eq_true (decide (((a_row.length : Nat) : Int) ≤ a_i)) with q_3 | q_3
    · rw [q_3, cond_true] at H
      obtain ⟨r_4, c2, H⟩ := bind_some H
      replace c2 := gNullR_ok c2
      try simp only [List.map_append, List.map_cons, List.map_nil, List.nil_append, tE_eq] at c2
      obtain rfl := Option.some.inj H
      exact go_
    · rw [q_3, cond_false] at H
      obtain ⟨x_5, i3, H⟩ := bind_some H
      obtain ⟨i3z, i3⟩ := getI_some i3
      have i3x := idxI (f := cV) i3
      obtain rfl := Option.some.inj H
      exact go_
def gEqual8 (a_a : (List Val)) (a_b : (List Val)) : Option (Bool) := (gCmp8 a_a a_b).bind fun r_1 => some (decide (r_1 = (0 : Int)))
theorem gEqual8_ok {a_a : (List Val)} {a_b : (List Val)} {r : Bool} (H : gEqual8 a_a a_b = some r) : Pure Tryz.prog 94 [.one (.lst (a_a.map cV)), .one (.lst (a_b.map cV))] (.val (.one (.bool r))) := by
  unfold gEqual8 at H
  refine pure_of_aw tab_ok Tryz.func94 rfl rfl Tryz.ntmps94 (by simp) ?_
  simp only [argT, PV.av, List.map_cons, List.map_nil]
  obtain ⟨r_1, c1, H⟩ := bind_some H
  replace c1 := gCmp8_ok c1
  try simp only [List.map_append, List.map_cons, List.map_nil, List.nil_append, tE_eq] at c1
  obtain rfl := Option.some.inj H
  exact go_
def gBefore_B1 (a_a : (List Val)) (a_b : (List Val)) (a_o : (List Ord)) : (Int) → Option (Step (Int) (Bool)) := fun s => match s with
  | i_1 => bif (decide (i_1 < ((a_o.length : Nat) : Int))) then
    (getI a_o i_1).bind fun x_3 => (gAtR a_a x_3.column).bind fun r_4 => (gAtR a_b x_3.column).bind fun r_5 => (gCmp7 r_4 r_5).bind fun r_6 => bif (decide (r_6 ≠ (0 : Int))) then
      some (.ret (!((decide (r_6 < (0 : Int))) == x_3.desc)))
    else
      some (.next (IntKind.i64.wrap (i_1 + (1 : Int))))
  else
    some (.exit i_1)
def gBefore_K1 (a_a : (List Val)) (a_b : (List Val)) : Sum (Int) (Bool) → Option ((Bool))
  | .inl i_1 => (gCmp8 a_a a_b).bind fun r_8 => some (decide (r_8 < (0 : Int)))
  | .inr q => some q
def gBefore (a_a : (List Val)) (a_b : (List Val)) (a_o : (List Ord)) : Option (Bool) := (loopM (gBefore_B1 a_a a_b a_o) fuel (0 : Int)).bind (gBefore_K1 a_a a_b)
theorem gBefore_ok {a_a : (List Val)} {a_b : (List Val)} {a_o : (List Ord)} {r : Bool} (H : gBefore a_a a_b a_o = some r) : Pure Tryz.prog 180 [.one (.lst (a_a.map cV)), .one (.lst (a_b.map cV)), .one (.lst (a_o.map cOrd))] (.val (.one (.bool r))) := by
  unfold gBefore at H
  refine pure_of_aw tab_ok Tryz.func180 rfl rfl Tryz.ntmps180 (by simp) ?_
  simp only [argT, PV.av, List.map_cons, List.map_nil]
  repeat' (first | refine p_ rfl rfl rfl rfl rfl ?_ | refine st_nil ?_ | refine x_ rfl rfl rfl rfl rfl rfl rfl rfl ?_ | refine l_ rfl rfl rfl rfl ?_ | refine s_ rfl rfl rfl ?_ | refine t_ rfl rfl rfl rfl ?_ | refine k_ rfl rfl rfl ?_ | refine k0_ rfl rfl ?_ | refine c_ rfl rfl rfl rfl ?_ | refine pick_t rfl rfl rfl rfl rfl rfl rfl ?_ | refine pick_f rfl rfl rfl rfl rfl rfl rfl ?_ | refine aw_seq ?_ | refine aw_region tab_ok _ rfl ?_ | refine aw_drawn2 tabS_ok _ rfl mixed (by decide +kernel) ?_ | refine aw_condT rfl ?_ | refine aw_condF rfl ?_ | refine aw_block ?_ | refine aw_exit ?_ | refine aw_ret ?_ | refine aw_skip ?_ | rw [List.length_map] | rw [mn_norm] | rw [mx_norm])
  refine aw_loopM (fun s : Int => match s with | i_1 => [(0, .one (.c (.lst (a_a.map cV)))), (1, .one (.c (.lst (a_b.map cV)))), (2, .one (.c (.lst (a_o.map cOrd)))), (7, .one (.c (.int .i64 i_1)))]) (fun s => match s with | i_1 => []) H (fun _ => Nat.zero_le _)
    (fits_mk ⟨rfl, rfl, rfl, rfl, trivial⟩ [] rfl ⟨trivial, trivial, trivial, trivial, trivial⟩ trivial) ?_
  rintro i_1 st1 hb1 hk1
  unfold gBefore_B1 at hb1
  dsimp only at hb1 ⊢
  rcases Bool.eq_false_or_eq_true (decide (i_1 < ((a_o.length : Nat) : Int))) with q_2 | q_2
  · rw [q_2, cond_true] at hb1
    obtain ⟨x_3, i1, hb1⟩ := bind_some hb1
    obtain ⟨i1z, i1⟩ := getI_some i1
    have i1x := idxI (f := cOrd) i1
    obtain ⟨r_4, c2, hb1⟩ := bind_some hb1
    replace c2 := gAtR_ok c2
    try simp only [List.map_append, List.map_cons, List.map_nil, List.nil_append, tE_eq] at c2
    obtain ⟨r_5, c3, hb1⟩ := bind_some hb1
    replace c3 := gAtR_ok c3
    try simp only [List.map_append, List.map_cons, List.map_nil, List.nil_append, tE_eq] at c3
    obtain ⟨r_6, c4, hb1⟩ := bind_some hb1
    replace c4 := gCmp7_ok c4
    try simp only [List.map_append, List.map_cons, List.map_nil, List.nil_append, tE_eq] at c4
    rcases Bool.eq_false_or_eq_true (decide (r_6 ≠ (0 : Int))) with q_7 | q_7
    · rw [q_7, cond_true] at hb1
      obtain rfl := Option.some.inj hb1
      have hx1 : gBefore_K1 a_a a_b (.inr (!((decide (r_6 < (0 : Int))) == x_3.desc))) = some _ := hk1
      unfold gBefore_K1 at hx1
      dsimp only at hx1
      obtain rfl := Option.some.inj hx1
      exact go_
    · rw [q_7, cond_false] at hb1
      obtain rfl := Option.some.inj hb1
      repeat' (first | refine p_ rfl rfl rfl rfl rfl ?_ | refine st_nil ?_ | refine x_ rfl rfl rfl rfl rfl rfl rfl rfl ?_ | refine l_ rfl rfl rfl rfl ?_ | refine s_ rfl rfl rfl ?_ | refine t_ rfl rfl rfl rfl ?_ | refine k_ rfl rfl rfl ?_ | refine k0_ rfl rfl ?_ | refine c_ rfl rfl rfl rfl ?_ | refine pick_t rfl rfl rfl rfl rfl rfl rfl ?_ | refine pick_f rfl rfl rfl rfl rfl rfl rfl ?_ | refine aw_seq ?_ | refine aw_region tab_ok _ rfl ?_ | refine aw_drawn2 tabS_ok _ rfl mixed (by decide +kernel) ?_ | refine aw_condT rfl ?_ | refine aw_condF rfl ?_ | refine aw_block ?_ | refine aw_exit ?_ | refine aw_ret ?_ | refine aw_skip ?_ | rw [List.length_map] | rw [mn_norm] | rw [mx_norm])
      exact ⟨_, rfl, fits_mk ⟨rfl, rfl, rfl, rfl, trivial⟩ [] rfl ⟨trivial, trivial, trivial, trivial, trivial⟩ trivial⟩
  · rw [q_2, cond_false] at hb1
    obtain rfl := Option.some.inj hb1
    have hx1 : gBefore_K1 a_a a_b (.inl i_1) = some _ := hk1
    unfold gBefore_K1 at hx1
    dsimp only at hx1
    obtain ⟨r_8, c5, hx1⟩ := bind_some hx1
    replace c5 := gCmp8_ok c5
    try simp only [List.map_append, List.map_cons, List.map_nil, List.nil_append, tE_eq] at c5
    obtain rfl := Option.some.inj hx1
    exact go_
def gMerged_B1 (a_a : (List (List Val))) (a_b : (List (List Val))) (a_o : (List Ord)) : ((List (List Val)) × Int × Int) → Option (Step ((List (List Val)) × Int × Int) ((List (List Val)))) := fun s => match s with
  | (out_1, i_2, k_3) => bif (decide (i_2 < ((a_a.length : Nat) : Int))) then
    bif (decide (i_2 = ((a_a.length : Nat) : Int))) then
      (getI a_b k_3).bind fun x_6 => bif (decide (out_1.length + 1 ≤ 5864062014805)) then (some (.next ((out_1 ++ [x_6]), i_2, (IntKind.i64.wrap (k_3 + (1 : Int)))))) else none
    else
      bif (decide (k_3 < ((a_b.length : Nat) : Int))) then
        (getI a_b k_3).bind fun x_8 => (getI a_a i_2).bind fun x_9 => (gBefore x_8 x_9 a_o).bind fun r_10 => bif r_10 then
          bif (decide (out_1.length + 1 ≤ 5864062014805)) then (some (.next ((out_1 ++ [x_8]), i_2, (IntKind.i64.wrap (k_3 + (1 : Int)))))) else none
        else
          bif (decide (out_1.length + 1 ≤ 5864062014805)) then (some (.next ((out_1 ++ [x_9]), (IntKind.i64.wrap (i_2 + (1 : Int))), k_3))) else none
      else
        (getI a_a i_2).bind fun x_12 => bif (decide (out_1.length + 1 ≤ 5864062014805)) then (some (.next ((out_1 ++ [x_12]), (IntKind.i64.wrap (i_2 + (1 : Int))), k_3))) else none
  else
    bif (decide (k_3 < ((a_b.length : Nat) : Int))) then
      bif (decide (i_2 = ((a_a.length : Nat) : Int))) then
        (getI a_b k_3).bind fun x_15 => bif (decide (out_1.length + 1 ≤ 5864062014805)) then (some (.next ((out_1 ++ [x_15]), i_2, (IntKind.i64.wrap (k_3 + (1 : Int)))))) else none
      else
        (getI a_b k_3).bind fun x_16 => (getI a_a i_2).bind fun x_17 => (gBefore x_16 x_17 a_o).bind fun r_18 => bif r_18 then
          bif (decide (out_1.length + 1 ≤ 5864062014805)) then (some (.next ((out_1 ++ [x_16]), i_2, (IntKind.i64.wrap (k_3 + (1 : Int)))))) else none
        else
          bif (decide (out_1.length + 1 ≤ 5864062014805)) then (some (.next ((out_1 ++ [x_17]), (IntKind.i64.wrap (i_2 + (1 : Int))), k_3))) else none
    else
      some (.exit (out_1, i_2, k_3))
def gMerged_K1 : Sum ((List (List Val)) × Int × Int) ((List (List Val))) → Option (((List (List Val))))
  | .inl (out_1, i_2, k_3) => some out_1
  | .inr q => some q
def gMerged (a_a : (List (List Val))) (a_b : (List (List Val))) (a_o : (List Ord)) : Option ((List (List Val))) := (loopM (gMerged_B1 a_a a_b a_o) fuel ([], (0 : Int), (0 : Int))).bind (gMerged_K1)
theorem gMerged_ok {a_a : (List (List Val))} {a_b : (List (List Val))} {a_o : (List Ord)} {r : (List (List Val))} (H : gMerged a_a a_b a_o = some r) : Pure Tryz.prog 143 [.one (.lst (a_a.map (fun x => [AC.lst (x.map cV)]))), .one (.lst (a_b.map (fun x => [AC.lst (x.map cV)]))), .one (.lst (a_o.map cOrd))] (.val (.one (.lst (r.map (fun x => [AC.lst (x.map cV)]))))) := by
  unfold gMerged at H
  refine pure_of_aw tab_ok Tryz.func143 rfl rfl Tryz.ntmps143 (by simp) ?_
  simp only [argT, PV.av, List.map_cons, List.map_nil]
  repeat' (first | refine p_ rfl rfl rfl rfl rfl ?_ | refine st_nil ?_ | refine x_ rfl rfl rfl rfl rfl rfl rfl rfl ?_ | refine l_ rfl rfl rfl rfl ?_ | refine s_ rfl rfl rfl ?_ | refine t_ rfl rfl rfl rfl ?_ | refine k_ rfl rfl rfl ?_ | refine k0_ rfl rfl ?_ | refine c_ rfl rfl rfl rfl ?_ | refine pick_t rfl rfl rfl rfl rfl rfl rfl ?_ | refine pick_f rfl rfl rfl rfl rfl rfl rfl ?_ | refine aw_seq ?_ | refine aw_region tab_ok _ rfl ?_ | refine aw_drawn2 tabS_ok _ rfl mixed (by decide +kernel) ?_ | refine aw_condT rfl ?_ | refine aw_condF rfl ?_ | refine aw_block ?_ | refine aw_exit ?_ | refine aw_ret ?_ | refine aw_skip ?_ | rw [List.length_map] | rw [mn_norm] | rw [mx_norm])
  refine aw_tok 7 1 rfl ?_
  refine aw_loopM (fun s : (List (List Val)) × Int × Int => match s with | (out_1, i_2, k_3) => [(0, .one (.c (.lst (a_a.map (fun x => [AC.lst (x.map cV)]))))), (1, .one (.c (.lst (a_b.map (fun x => [AC.lst (x.map cV)]))))), (2, .one (.c (.lst (a_o.map cOrd)))), (7, .one (.own (out_1.map (fun x => [AC.lst (x.map cV)])) 0)), (8, .one (.c (.int .i64 i_2))), (9, .one (.c (.int .i64 k_3)))]) (fun s => match s with | (out_1, i_2, k_3) => [.spare out_1.length 1]) H (fun _ => Nat.zero_le _)
    (fits_mk ⟨rfl, rfl, rfl, rfl, rfl, rfl, trivial⟩ [] rfl ⟨trivial, trivial, trivial, by show 0 < 1; omega, trivial, trivial, trivial⟩ ⟨trivial, trivial⟩) ?_
  rintro ⟨out_1, i_2, k_3⟩ st1 hb1 hk1
  unfold gMerged_B1 at hb1
  dsimp only at hb1 ⊢
  rcases Bool.eq_false_or_eq_true (decide (i_2 < ((a_a.length : Nat) : Int))) with q_4 | q_4
  · rw [q_4, cond_true] at hb1
    rcases Bool.eq_false_or_eq_true (decide (i_2 = ((a_a.length : Nat) : Int))) with q_5 | q_5
    · rw [q_5, cond_true] at hb1
      obtain ⟨x_6, i1, hb1⟩ := bind_some hb1
      obtain ⟨i1z, i1⟩ := getI_some i1
      have i1x := idxI (f := (fun x => [AC.lst (x.map cV)])) i1
      obtain ⟨g2, hb1⟩ := grd_some hb1
      replace g2 := of_decide_eq_true g2
      obtain rfl := Option.some.inj hb1
      repeat' (first | refine p_ rfl rfl rfl rfl rfl ?_ | refine st_nil ?_ | refine x_ rfl rfl rfl rfl rfl rfl rfl rfl ?_ | refine l_ rfl rfl rfl rfl ?_ | refine s_ rfl rfl rfl ?_ | refine t_ rfl rfl rfl rfl ?_ | refine k_ rfl rfl rfl ?_ | refine k0_ rfl rfl ?_ | refine c_ rfl rfl rfl rfl ?_ | refine pick_t rfl rfl rfl rfl rfl rfl rfl ?_ | refine pick_f rfl rfl rfl rfl rfl rfl rfl ?_ | refine aw_seq ?_ | refine aw_region tab_ok _ rfl ?_ | refine aw_drawn2 tabS_ok _ rfl mixed (by decide +kernel) ?_ | refine aw_condT rfl ?_ | refine aw_condF rfl ?_ | refine aw_block ?_ | refine aw_exit ?_ | refine aw_ret ?_ | refine aw_skip ?_ | rw [List.length_map] | rw [mn_norm] | rw [mx_norm])
      exact ⟨_, rfl, fits_mk ⟨rfl, rfl, rfl, (by simp only [List.map_append, List.map_cons, List.map_nil, List.nil_append] <;> rfl), rfl, rfl, trivial⟩ [] (by simp only [List.length_append, List.length_cons, List.length_nil, Nat.zero_add, List.map_append, List.map_cons, List.map_nil] <;> rfl) ⟨trivial, trivial, trivial, by show 0 < 1; omega, trivial, trivial, trivial⟩ ⟨trivial, trivial⟩⟩
    · rw [q_5, cond_false] at hb1
      rcases Bool.eq_false_or_eq_true (decide (k_3 < ((a_b.length : Nat) : Int))) with q_7 | q_7
      · rw [q_7, cond_true] at hb1
        obtain ⟨x_8, i3, hb1⟩ := bind_some hb1
        obtain ⟨i3z, i3⟩ := getI_some i3
        have i3x := idxI (f := (fun x => [AC.lst (x.map cV)])) i3
        obtain ⟨x_9, i4, hb1⟩ := bind_some hb1
        obtain ⟨i4z, i4⟩ := getI_some i4
        have i4x := idxI (f := (fun x => [AC.lst (x.map cV)])) i4
        obtain ⟨r_10, c5, hb1⟩ := bind_some hb1
        replace c5 := gBefore_ok c5
        try simp only [List.map_append, List.map_cons, List.map_nil, List.nil_append, tE_eq] at c5
        rcases Bool.eq_false_or_eq_true r_10 with q_11 | q_11
        · rw [q_11, cond_true] at hb1
          obtain ⟨g6, hb1⟩ := grd_some hb1
          replace g6 := of_decide_eq_true g6
          obtain rfl := Option.some.inj hb1
          repeat' (first | refine p_ rfl rfl rfl rfl rfl ?_ | refine st_nil ?_ | refine x_ rfl rfl rfl rfl rfl rfl rfl rfl ?_ | refine l_ rfl rfl rfl rfl ?_ | refine s_ rfl rfl rfl ?_ | refine t_ rfl rfl rfl rfl ?_ | refine k_ rfl rfl rfl ?_ | refine k0_ rfl rfl ?_ | refine c_ rfl rfl rfl rfl ?_ | refine pick_t rfl rfl rfl rfl rfl rfl rfl ?_ | refine pick_f rfl rfl rfl rfl rfl rfl rfl ?_ | refine aw_seq ?_ | refine aw_region tab_ok _ rfl ?_ | refine aw_drawn2 tabS_ok _ rfl mixed (by decide +kernel) ?_ | refine aw_condT rfl ?_ | refine aw_condF rfl ?_ | refine aw_block ?_ | refine aw_exit ?_ | refine aw_ret ?_ | refine aw_skip ?_ | rw [List.length_map] | rw [mn_norm] | rw [mx_norm])
          exact ⟨_, rfl, fits_mk ⟨rfl, rfl, rfl, (by simp only [List.map_append, List.map_cons, List.map_nil, List.nil_append] <;> rfl), rfl, rfl, trivial⟩ [] (by simp only [List.length_append, List.length_cons, List.length_nil, Nat.zero_add, List.map_append, List.map_cons, List.map_nil] <;> rfl) ⟨trivial, trivial, trivial, by show 0 < 1; omega, trivial, trivial, trivial⟩ ⟨trivial, trivial⟩⟩
        · rw [q_11, cond_false] at hb1
          obtain ⟨g7, hb1⟩ := grd_some hb1
          replace g7 := of_decide_eq_true g7
          obtain rfl := Option.some.inj hb1
          repeat' (first | refine p_ rfl rfl rfl rfl rfl ?_ | refine st_nil ?_ | refine x_ rfl rfl rfl rfl rfl rfl rfl rfl ?_ | refine l_ rfl rfl rfl rfl ?_ | refine s_ rfl rfl rfl ?_ | refine t_ rfl rfl rfl rfl ?_ | refine k_ rfl rfl rfl ?_ | refine k0_ rfl rfl ?_ | refine c_ rfl rfl rfl rfl ?_ | refine pick_t rfl rfl rfl rfl rfl rfl rfl ?_ | refine pick_f rfl rfl rfl rfl rfl rfl rfl ?_ | refine aw_seq ?_ | refine aw_region tab_ok _ rfl ?_ | refine aw_drawn2 tabS_ok _ rfl mixed (by decide +kernel) ?_ | refine aw_condT rfl ?_ | refine aw_condF rfl ?_ | refine aw_block ?_ | refine aw_exit ?_ | refine aw_ret ?_ | refine aw_skip ?_ | rw [List.length_map] | rw [mn_norm] | rw [mx_norm])
          exact ⟨_, rfl, fits_mk ⟨rfl, rfl, rfl, (by simp only [List.map_append, List.map_cons, List.map_nil, List.nil_append] <;> rfl), rfl, rfl, trivial⟩ [] (by simp only [List.length_append, List.length_cons, List.length_nil, Nat.zero_add, List.map_append, List.map_cons, List.map_nil] <;> rfl) ⟨trivial, trivial, trivial, by show 0 < 1; omega, trivial, trivial, trivial⟩ ⟨trivial, trivial⟩⟩
      · rw [q_7, cond_false] at hb1
        obtain ⟨x_12, i8, hb1⟩ := bind_some hb1
        obtain ⟨i8z, i8⟩ := getI_some i8
        have i8x := idxI (f := (fun x => [AC.lst (x.map cV)])) i8
        obtain ⟨g9, hb1⟩ := grd_some hb1
        replace g9 := of_decide_eq_true g9
        obtain rfl := Option.some.inj hb1
        repeat' (first | refine p_ rfl rfl rfl rfl rfl ?_ | refine st_nil ?_ | refine x_ rfl rfl rfl rfl rfl rfl rfl rfl ?_ | refine l_ rfl rfl rfl rfl ?_ | refine s_ rfl rfl rfl ?_ | refine t_ rfl rfl rfl rfl ?_ | refine k_ rfl rfl rfl ?_ | refine k0_ rfl rfl ?_ | refine c_ rfl rfl rfl rfl ?_ | refine pick_t rfl rfl rfl rfl rfl rfl rfl ?_ | refine pick_f rfl rfl rfl rfl rfl rfl rfl ?_ | refine aw_seq ?_ | refine aw_region tab_ok _ rfl ?_ | refine aw_drawn2 tabS_ok _ rfl mixed (by decide +kernel) ?_ | refine aw_condT rfl ?_ | refine aw_condF rfl ?_ | refine aw_block ?_ | refine aw_exit ?_ | refine aw_ret ?_ | refine aw_skip ?_ | rw [List.length_map] | rw [mn_norm] | rw [mx_norm])
        exact ⟨_, rfl, fits_mk ⟨rfl, rfl, rfl, (by simp only [List.map_append, List.map_cons, List.map_nil, List.nil_append] <;> rfl), rfl, rfl, trivial⟩ [] (by simp only [List.length_append, List.length_cons, List.length_nil, Nat.zero_add, List.map_append, List.map_cons, List.map_nil] <;> rfl) ⟨trivial, trivial, trivial, by show 0 < 1; omega, trivial, trivial, trivial⟩ ⟨trivial, trivial⟩⟩
  · rw [q_4, cond_false] at hb1
    rcases Bool.eq_false_or_eq_true (decide (k_3 < ((a_b.length : Nat) : Int))) with q_13 | q_13
    · rw [q_13, cond_true] at hb1
      rcases Bool.eq_false_or_eq_true (decide (i_2 = ((a_a.length : Nat) : Int))) with q_14 | q_14
      · rw [q_14, cond_true] at hb1
        obtain ⟨x_15, i10, hb1⟩ := bind_some hb1
        obtain ⟨i10z, i10⟩ := getI_some i10
        have i10x := idxI (f := (fun x => [AC.lst (x.map cV)])) i10
        obtain ⟨g11, hb1⟩ := grd_some hb1
        replace g11 := of_decide_eq_true g11
        obtain rfl := Option.some.inj hb1
        repeat' (first | refine p_ rfl rfl rfl rfl rfl ?_ | refine st_nil ?_ | refine x_ rfl rfl rfl rfl rfl rfl rfl rfl ?_ | refine l_ rfl rfl rfl rfl ?_ | refine s_ rfl rfl rfl ?_ | refine t_ rfl rfl rfl rfl ?_ | refine k_ rfl rfl rfl ?_ | refine k0_ rfl rfl ?_ | refine c_ rfl rfl rfl rfl ?_ | refine pick_t rfl rfl rfl rfl rfl rfl rfl ?_ | refine pick_f rfl rfl rfl rfl rfl rfl rfl ?_ | refine aw_seq ?_ | refine aw_region tab_ok _ rfl ?_ | refine aw_drawn2 tabS_ok _ rfl mixed (by decide +kernel) ?_ | refine aw_condT rfl ?_ | refine aw_condF rfl ?_ | refine aw_block ?_ | refine aw_exit ?_ | refine aw_ret ?_ | refine aw_skip ?_ | rw [List.length_map] | rw [mn_norm] | rw [mx_norm])
        exact ⟨_, rfl, fits_mk ⟨rfl, rfl, rfl, (by simp only [List.map_append, List.map_cons, List.map_nil, List.nil_append] <;> rfl), rfl, rfl, trivial⟩ [] (by simp only [List.length_append, List.length_cons, List.length_nil, Nat.zero_add, List.map_append, List.map_cons, List.map_nil] <;> rfl) ⟨trivial, trivial, trivial, by show 0 < 1; omega, trivial, trivial, trivial⟩ ⟨trivial, trivial⟩⟩
      · rw [q_14, cond_false] at hb1
        obtain ⟨x_16, i12, hb1⟩ := bind_some hb1
        obtain ⟨i12z, i12⟩ := getI_some i12
        have i12x := idxI (f := (fun x => [AC.lst (x.map cV)])) i12
        obtain ⟨x_17, i13, hb1⟩ := bind_some hb1
        obtain ⟨i13z, i13⟩ := getI_some i13
        have i13x := idxI (f := (fun x => [AC.lst (x.map cV)])) i13
        obtain ⟨r_18, c14, hb1⟩ := bind_some hb1
        replace c14 := gBefore_ok c14
        try simp only [List.map_append, List.map_cons, List.map_nil, List.nil_append, tE_eq] at c14
        rcases Bool.eq_false_or_eq_true r_18 with q_19 | q_19
        · rw [q_19, cond_true] at hb1
          obtain ⟨g15, hb1⟩ := grd_some hb1
          replace g15 := of_decide_eq_true g15
          obtain rfl := Option.some.inj hb1
          repeat' (first | refine p_ rfl rfl rfl rfl rfl ?_ | refine st_nil ?_ | refine x_ rfl rfl rfl rfl rfl rfl rfl rfl ?_ | refine l_ rfl rfl rfl rfl ?_ | refine s_ rfl rfl rfl ?_ | refine t_ rfl rfl rfl rfl ?_ | refine k_ rfl rfl rfl ?_ | refine k0_ rfl rfl ?_ | refine c_ rfl rfl rfl rfl ?_ | refine pick_t rfl rfl rfl rfl rfl rfl rfl ?_ | refine pick_f rfl rfl rfl rfl rfl rfl rfl ?_ | refine aw_seq ?_ | refine aw_region tab_ok _ rfl ?_ | refine aw_drawn2 tabS_ok _ rfl mixed (by decide +kernel) ?_ | refine aw_condT rfl ?_ | refine aw_condF rfl ?_ | refine aw_block ?_ | refine aw_exit ?_ | refine aw_ret ?_ | refine aw_skip ?_ | rw [List.length_map] | rw [mn_norm] | rw [mx_norm])
          exact ⟨_, rfl, fits_mk ⟨rfl, rfl, rfl, (by simp only [List.map_append, List.map_cons, List.map_nil, List.nil_append] <;> rfl), rfl, rfl, trivial⟩ [] (by simp only [List.length_append, List.length_cons, List.length_nil, Nat.zero_add, List.map_append, List.map_cons, List.map_nil] <;> rfl) ⟨trivial, trivial, trivial, by show 0 < 1; omega, trivial, trivial, trivial⟩ ⟨trivial, trivial⟩⟩
        · rw [q_19, cond_false] at hb1
          obtain ⟨g16, hb1⟩ := grd_some hb1
          replace g16 := of_decide_eq_true g16
          obtain rfl := Option.some.inj hb1
          repeat' (first | refine p_ rfl rfl rfl rfl rfl ?_ | refine st_nil ?_ | refine x_ rfl rfl rfl rfl rfl rfl rfl rfl ?_ | refine l_ rfl rfl rfl rfl ?_ | refine s_ rfl rfl rfl ?_ | refine t_ rfl rfl rfl rfl ?_ | refine k_ rfl rfl rfl ?_ | refine k0_ rfl rfl ?_ | refine c_ rfl rfl rfl rfl ?_ | refine pick_t rfl rfl rfl rfl rfl rfl rfl ?_ | refine pick_f rfl rfl rfl rfl rfl rfl rfl ?_ | refine aw_seq ?_ | refine aw_region tab_ok _ rfl ?_ | refine aw_drawn2 tabS_ok _ rfl mixed (by decide +kernel) ?_ | refine aw_condT rfl ?_ | refine aw_condF rfl ?_ | refine aw_block ?_ | refine aw_exit ?_ | refine aw_ret ?_ | refine aw_skip ?_ | rw [List.length_map] | rw [mn_norm] | rw [mx_norm])
          exact ⟨_, rfl, fits_mk ⟨rfl, rfl, rfl, (by simp only [List.map_append, List.map_cons, List.map_nil, List.nil_append] <;> rfl), rfl, rfl, trivial⟩ [] (by simp only [List.length_append, List.length_cons, List.length_nil, Nat.zero_add, List.map_append, List.map_cons, List.map_nil] <;> rfl) ⟨trivial, trivial, trivial, by show 0 < 1; omega, trivial, trivial, trivial⟩ ⟨trivial, trivial⟩⟩
    · rw [q_13, cond_false] at hb1
      obtain rfl := Option.some.inj hb1
      have hx1 : gMerged_K1 (.inl (out_1, i_2, k_3)) = some _ := hk1
      unfold gMerged_K1 at hx1
      dsimp only at hx1
      obtain rfl := Option.some.inj hx1
      exact go_
def gFits8_B1 (a_row : (List Val)) (a_kinds : (List Int)) : (Int) → Option (Step (Int) (Bool)) := fun s => match s with
  | i_2 => bif (decide (i_2 < ((a_row.length : Nat) : Int))) then
    (getI a_row i_2).bind fun x_4 => (gValidR x_4).bind fun r_5 => bif (!r_5) then
      some (.ret false)
    else
      bif (decide (x_4.kind ≠ (0 : Int))) then
        (getI a_kinds i_2).bind fun x_8 => bif (decide (x_4.kind ≠ x_8)) then
          some (.ret false)
        else
          some (.next (IntKind.i64.wrap (i_2 + (1 : Int))))
      else
        some (.next (IntKind.i64.wrap (i_2 + (1 : Int))))
  else
    some (.exit i_2)
def gFits8_K1 : Sum (Int) (Bool) → Option ((Bool))
  | .inl i_2 => some true
  | .inr q => some q
def gFits8 (a_row : (List Val)) (a_kinds : (List Int)) : Option (Bool) := bif (decide (((a_row.length : Nat) : Int) ≠ ((a_kinds.length : Nat) : Int))) then
  some false
 else
  (loopM (gFits8_B1 a_row a_kinds) fuel (0 : Int)).bind (gFits8_K1)
theorem gFits8_ok {a_row : (List Val)} {a_kinds : (List Int)} {r : Bool} (H : gFits8 a_row a_kinds = some r) : Pure Tryz.prog 70 [.one (.lst (a_row.map cV)), .one (.lst (a_kinds.map (fun x => [AC.int .i64 x])))] (.val (.one (.bool r))) := by
  unfold gFits8 at H
  refine pure_of_aw tab_ok Tryz.func70 rfl rfl Tryz.ntmps70 (by simp) ?_
  simp only [argT, PV.av, List.map_cons, List.map_nil]
  rcases Bool.eq_false_or_eq_true (decide (((a_row.length : Nat) : Int) ≠ ((a_kinds.length : Nat) : Int))) with q_1 | q_1
  · rw [q_1, cond_true] at H
    obtain rfl := Option.some.inj H
    exact go_
  · rw [q_1, cond_false] at H
    repeat' (first | refine p_ rfl rfl rfl rfl rfl ?_ | refine st_nil ?_ | refine x_ rfl rfl rfl rfl rfl rfl rfl rfl ?_ | refine l_ rfl rfl rfl rfl ?_ | refine s_ rfl rfl rfl ?_ | refine t_ rfl rfl rfl rfl ?_ | refine k_ rfl rfl rfl ?_ | refine k0_ rfl rfl ?_ | refine c_ rfl rfl rfl rfl ?_ | refine pick_t rfl rfl rfl rfl rfl rfl rfl ?_ | refine pick_f rfl rfl rfl rfl rfl rfl rfl ?_ | refine aw_seq ?_ | refine aw_region tab_ok _ rfl ?_ | refine aw_drawn2 tabS_ok _ rfl mixed (by decide +kernel) ?_ | refine aw_condT rfl ?_ | refine aw_condF rfl ?_ | refine aw_block ?_ | refine aw_exit ?_ | refine aw_ret ?_ | refine aw_skip ?_ | rw [List.length_map] | rw [mn_norm] | rw [mx_norm])
    refine aw_loopM (fun s : Int => match s with | i_2 => [(0, .one (.c (.lst (a_row.map cV)))), (1, .one (.c (.lst (a_kinds.map (fun x => [AC.int .i64 x]))))), (5, .one (.c (.int .i64 i_2)))]) (fun s => match s with | i_2 => []) H (fun _ => Nat.zero_le _)
      (fits_mk ⟨rfl, rfl, rfl, trivial⟩ [] rfl ⟨trivial, trivial, trivial, trivial⟩ trivial) ?_
    rintro i_2 st1 hb1 hk1
    unfold gFits8_B1 at hb1
    dsimp only at hb1 ⊢
    rcases Bool.eq_false_or_eq_true (decide (i_2 < ((a_row.length : Nat) : Int))) with q_3 | q_3
    · rw [q_3, cond_true] at hb1
      obtain ⟨x_4, i1, hb1⟩ := bind_some hb1
      obtain ⟨i1z, i1⟩ := getI_some i1
      have i1x := idxI (f := cV) i1
      obtain ⟨r_5, c2, hb1⟩ := bind_some hb1
      replace c2 := gValidR_ok c2
      try simp only [List.map_append, List.map_cons, List.map_nil, List.nil_append, tE_eq] at c2
      rcases Bool.eq_false_or_eq_true (!r_5) with q_6 | q_6
      · rw [q_6, cond_true] at hb1
        obtain rfl := Option.some.inj hb1
        have hx1 : gFits8_K1 (.inr false) = some _ := hk1
        unfold gFits8_K1 at hx1
        dsimp only at hx1
        obtain rfl := Option.some.inj hx1
        exact go_
      · rw [q_6, cond_false] at hb1
        rcases Bool.eq_false_or_eq_true (decide (x_4.kind ≠ (0 : Int))) with q_7 | q_7
        · rw [q_7, cond_true] at hb1
          obtain ⟨x_8, i3, hb1⟩ := bind_some hb1
          obtain ⟨i3z, i3⟩ := getI_some i3
          have i3x := idxI (f := (fun x => [AC.int .i64 x])) i3
          rcases Bool.eq_false_or_eq_true (decide (x_4.kind ≠ x_8)) with q_9 | q_9
          · rw [q_9, cond_true] at hb1
            obtain rfl := Option.some.inj hb1
            have hx1 : gFits8_K1 (.inr false) = some _ := hk1
            unfold gFits8_K1 at hx1
            dsimp only at hx1
            obtain rfl := Option.some.inj hx1
            exact go_
          · rw [q_9, cond_false] at hb1
            obtain rfl := Option.some.inj hb1
            repeat' (first | refine p_ rfl rfl rfl rfl rfl ?_ | refine st_nil ?_ | refine x_ rfl rfl rfl rfl rfl rfl rfl rfl ?_ | refine l_ rfl rfl rfl rfl ?_ | refine s_ rfl rfl rfl ?_ | refine t_ rfl rfl rfl rfl ?_ | refine k_ rfl rfl rfl ?_ | refine k0_ rfl rfl ?_ | refine c_ rfl rfl rfl rfl ?_ | refine pick_t rfl rfl rfl rfl rfl rfl rfl ?_ | refine pick_f rfl rfl rfl rfl rfl rfl rfl ?_ | refine aw_seq ?_ | refine aw_region tab_ok _ rfl ?_ | refine aw_drawn2 tabS_ok _ rfl mixed (by decide +kernel) ?_ | refine aw_condT rfl ?_ | refine aw_condF rfl ?_ | refine aw_block ?_ | refine aw_exit ?_ | refine aw_ret ?_ | refine aw_skip ?_ | rw [List.length_map] | rw [mn_norm] | rw [mx_norm])
            exact ⟨_, rfl, fits_mk ⟨rfl, rfl, rfl, trivial⟩ [] rfl ⟨trivial, trivial, trivial, trivial⟩ trivial⟩
        · rw [q_7, cond_false] at hb1
          obtain rfl := Option.some.inj hb1
          repeat' (first | refine p_ rfl rfl rfl rfl rfl ?_ | refine st_nil ?_ | refine x_ rfl rfl rfl rfl rfl rfl rfl rfl ?_ | refine l_ rfl rfl rfl rfl ?_ | refine s_ rfl rfl rfl ?_ | refine t_ rfl rfl rfl rfl ?_ | refine k_ rfl rfl rfl ?_ | refine k0_ rfl rfl ?_ | refine c_ rfl rfl rfl rfl ?_ | refine pick_t rfl rfl rfl rfl rfl rfl rfl ?_ | refine pick_f rfl rfl rfl rfl rfl rfl rfl ?_ | refine aw_seq ?_ | refine aw_region tab_ok _ rfl ?_ | refine aw_drawn2 tabS_ok _ rfl mixed (by decide +kernel) ?_ | refine aw_condT rfl ?_ | refine aw_condF rfl ?_ | refine aw_block ?_ | refine aw_exit ?_ | refine aw_ret ?_ | refine aw_skip ?_ | rw [List.length_map] | rw [mn_norm] | rw [mx_norm])
          exact ⟨_, rfl, fits_mk ⟨rfl, rfl, rfl, trivial⟩ [] rfl ⟨trivial, trivial, trivial, trivial⟩ trivial⟩
    · rw [q_3, cond_false] at hb1
      obtain rfl := Option.some.inj hb1
      have hx1 : gFits8_K1 (.inl i_2) = some _ := hk1
      unfold gFits8_K1 at hx1
      dsimp only at hx1
      obtain rfl := Option.some.inj hx1
      exact go_
def gKind (a_k : Int) : Option (Bool) := bif (decide (a_k = (1 : Int))) then
  some true
 else
  bif (decide (a_k = (2 : Int))) then
    some true
  else
    some (decide (a_k = (3 : Int)))
theorem gKind_ok {a_k : Int} {r : Bool} (H : gKind a_k = some r) : Pure Tryz.prog 106 [.one (.int .i64 a_k)] (.val (.one (.bool r))) := by
  unfold gKind at H
  refine pure_of_aw tab_ok Tryz.func106 rfl rfl Tryz.ntmps106 (by simp) ?_
  simp only [argT, PV.av, List.map_cons, List.map_nil]
  rcases Bool.eq_false_or_eq_true (decide (a_k = (1 : Int))) with q_1 | q_1
  · rw [q_1, cond_true] at H
    obtain rfl := Option.some.inj H
    exact go_
  · rw [q_1, cond_false] at H
    rcases Bool.eq_false_or_eq_true (decide (a_k = (2 : Int))) with q_2 | q_2
    · rw [q_2, cond_true] at H
      obtain rfl := Option.some.inj H
      exact go_
    · rw [q_2, cond_false] at H
      obtain rfl := Option.some.inj H
      exact go_
def gKinds_B1 (a_l : (List Int)) : (Int) → Option (Step (Int) (Bool)) := fun s => match s with
  | i_1 => bif (decide (i_1 < ((a_l.length : Nat) : Int))) then
    (getI a_l i_1).bind fun x_3 => (gKind x_3).bind fun r_4 => bif (!r_4) then
      some (.ret false)
    else
      some (.next (IntKind.i64.wrap (i_1 + (1 : Int))))
  else
    some (.exit i_1)
def gKinds_K1 : Sum (Int) (Bool) → Option ((Bool))
  | .inl i_1 => some true
  | .inr q => some q
def gKinds (a_l : (List Int)) : Option (Bool) := (loopM (gKinds_B1 a_l) fuel (0 : Int)).bind (gKinds_K1)
theorem gKinds_ok {a_l : (List Int)} {r : Bool} (H : gKinds a_l = some r) : Pure Tryz.prog 71 [.one (.lst (a_l.map (fun x => [AC.int .i64 x])))] (.val (.one (.bool r))) := by
  unfold gKinds at H
  refine pure_of_aw tab_ok Tryz.func71 rfl rfl Tryz.ntmps71 (by simp) ?_
  simp only [argT, PV.av, List.map_cons, List.map_nil]
  repeat' (first | refine p_ rfl rfl rfl rfl rfl ?_ | refine st_nil ?_ | refine x_ rfl rfl rfl rfl rfl rfl rfl rfl ?_ | refine l_ rfl rfl rfl rfl ?_ | refine s_ rfl rfl rfl ?_ | refine t_ rfl rfl rfl rfl ?_ | refine k_ rfl rfl rfl ?_ | refine k0_ rfl rfl ?_ | refine c_ rfl rfl rfl rfl ?_ | refine pick_t rfl rfl rfl rfl rfl rfl rfl ?_ | refine pick_f rfl rfl rfl rfl rfl rfl rfl ?_ | refine aw_seq ?_ | refine aw_region tab_ok _ rfl ?_ | refine aw_drawn2 tabS_ok _ rfl mixed (by decide +kernel) ?_ | refine aw_condT rfl ?_ | refine aw_condF rfl ?_ | refine aw_block ?_ | refine aw_exit ?_ | refine aw_ret ?_ | refine aw_skip ?_ | rw [List.length_map] | rw [mn_norm] | rw [mx_norm])
  refine aw_loopM (fun s : Int => match s with | i_1 => [(0, .one (.c (.lst (a_l.map (fun x => [AC.int .i64 x]))))), (3, .one (.c (.int .i64 i_1)))]) (fun s => match s with | i_1 => []) H (fun _ => Nat.zero_le _)
    (fits_mk ⟨rfl, rfl, trivial⟩ [] rfl ⟨trivial, trivial, trivial⟩ trivial) ?_
  rintro i_1 st1 hb1 hk1
  unfold gKinds_B1 at hb1
  dsimp only at hb1 ⊢
  rcases Bool.eq_false_or_eq_true (decide (i_1 < ((a_l.length : Nat) : Int))) with q_2 | q_2
  · rw [q_2, cond_true] at hb1
    obtain ⟨x_3, i1, hb1⟩ := bind_some hb1
    obtain ⟨i1z, i1⟩ := getI_some i1
    have i1x := idxI (f := (fun x => [AC.int .i64 x])) i1
    obtain ⟨r_4, c2, hb1⟩ := bind_some hb1
    replace c2 := gKind_ok c2
    try simp only [List.map_append, List.map_cons, List.map_nil, List.nil_append, tE_eq] at c2
    rcases Bool.eq_false_or_eq_true (!r_4) with q_5 | q_5
    · rw [q_5, cond_true] at hb1
      obtain rfl := Option.some.inj hb1
      have hx1 : gKinds_K1 (.inr false) = some _ := hk1
      unfold gKinds_K1 at hx1
      dsimp only at hx1
      obtain rfl := Option.some.inj hx1
      exact go_
    · rw [q_5, cond_false] at hb1
      obtain rfl := Option.some.inj hb1
      repeat' (first | refine p_ rfl rfl rfl rfl rfl ?_ | refine st_nil ?_ | refine x_ rfl rfl rfl rfl rfl rfl rfl rfl ?_ | refine l_ rfl rfl rfl rfl ?_ | refine s_ rfl rfl rfl ?_ | refine t_ rfl rfl rfl rfl ?_ | refine k_ rfl rfl rfl ?_ | refine k0_ rfl rfl ?_ | refine c_ rfl rfl rfl rfl ?_ | refine pick_t rfl rfl rfl rfl rfl rfl rfl ?_ | refine pick_f rfl rfl rfl rfl rfl rfl rfl ?_ | refine aw_seq ?_ | refine aw_region tab_ok _ rfl ?_ | refine aw_drawn2 tabS_ok _ rfl mixed (by decide +kernel) ?_ | refine aw_condT rfl ?_ | refine aw_condF rfl ?_ | refine aw_block ?_ | refine aw_exit ?_ | refine aw_ret ?_ | refine aw_skip ?_ | rw [List.length_map] | rw [mn_norm] | rw [mx_norm])
      exact ⟨_, rfl, fits_mk ⟨rfl, rfl, trivial⟩ [] rfl ⟨trivial, trivial, trivial⟩ trivial⟩
  · rw [q_2, cond_false] at hb1
    obtain rfl := Option.some.inj hb1
    have hx1 : gKinds_K1 (.inl i_1) = some _ := hk1
    unfold gKinds_K1 at hx1
    dsimp only at hx1
    obtain rfl := Option.some.inj hx1
    exact go_
def gSameKinds_B1 (a_a : (List Int)) (a_b : (List Int)) : (Int) → Option (Step (Int) (Bool)) := fun s => match s with
  | i_2 => bif (decide (i_2 < ((a_a.length : Nat) : Int))) then
    (getI a_a i_2).bind fun x_4 => (getI a_b i_2).bind fun x_5 => bif (decide (x_4 ≠ x_5)) then
      some (.ret false)
    else
      some (.next (IntKind.i64.wrap (i_2 + (1 : Int))))
  else
    some (.exit i_2)
def gSameKinds_K1 : Sum (Int) (Bool) → Option ((Bool))
  | .inl i_2 => some true
  | .inr q => some q
def gSameKinds (a_a : (List Int)) (a_b : (List Int)) : Option (Bool) := bif (decide (((a_a.length : Nat) : Int) ≠ ((a_b.length : Nat) : Int))) then
  some false
 else
  (loopM (gSameKinds_B1 a_a a_b) fuel (0 : Int)).bind (gSameKinds_K1)
theorem gSameKinds_ok {a_a : (List Int)} {a_b : (List Int)} {r : Bool} (H : gSameKinds a_a a_b = some r) : Pure Tryz.prog 43 [.one (.lst (a_a.map (fun x => [AC.int .i64 x]))), .one (.lst (a_b.map (fun x => [AC.int .i64 x])))] (.val (.one (.bool r))) := by
  unfold gSameKinds at H
  refine pure_of_aw tab_ok Tryz.func43 rfl rfl Tryz.ntmps43 (by simp) ?_
  simp only [argT, PV.av, List.map_cons, List.map_nil]
  rcases Bool.eq_false_or_eq_true (decide (((a_a.length : Nat) : Int) ≠ ((a_b.length : Nat) : Int))) with q_1 | q_1
  · rw [q_1, cond_true] at H
    obtain rfl := Option.some.inj H
    exact go_
  · rw [q_1, cond_false] at H
    repeat' (first | refine p_ rfl rfl rfl rfl rfl ?_ | refine st_nil ?_ | refine x_ rfl rfl rfl rfl rfl rfl rfl rfl ?_ | refine l_ rfl rfl rfl rfl ?_ | refine s_ rfl rfl rfl ?_ | refine t_ rfl rfl rfl rfl ?_ | refine k_ rfl rfl rfl ?_ | refine k0_ rfl rfl ?_ | refine c_ rfl rfl rfl rfl ?_ | refine pick_t rfl rfl rfl rfl rfl rfl rfl ?_ | refine pick_f rfl rfl rfl rfl rfl rfl rfl ?_ | refine aw_seq ?_ | refine aw_region tab_ok _ rfl ?_ | refine aw_drawn2 tabS_ok _ rfl mixed (by decide +kernel) ?_ | refine aw_condT rfl ?_ | refine aw_condF rfl ?_ | refine aw_block ?_ | refine aw_exit ?_ | refine aw_ret ?_ | refine aw_skip ?_ | rw [List.length_map] | rw [mn_norm] | rw [mx_norm])
    refine aw_loopM (fun s : Int => match s with | i_2 => [(0, .one (.c (.lst (a_a.map (fun x => [AC.int .i64 x]))))), (1, .one (.c (.lst (a_b.map (fun x => [AC.int .i64 x]))))), (5, .one (.c (.int .i64 i_2)))]) (fun s => match s with | i_2 => []) H (fun _ => Nat.zero_le _)
      (fits_mk ⟨rfl, rfl, rfl, trivial⟩ [] rfl ⟨trivial, trivial, trivial, trivial⟩ trivial) ?_
    rintro i_2 st1 hb1 hk1
    unfold gSameKinds_B1 at hb1
    dsimp only at hb1 ⊢
    rcases Bool.eq_false_or_eq_true (decide (i_2 < ((a_a.length : Nat) : Int))) with q_3 | q_3
    · rw [q_3, cond_true] at hb1
      obtain ⟨x_4, i1, hb1⟩ := bind_some hb1
      obtain ⟨i1z, i1⟩ := getI_some i1
      have i1x := idxI (f := (fun x => [AC.int .i64 x])) i1
      obtain ⟨x_5, i2, hb1⟩ := bind_some hb1
      obtain ⟨i2z, i2⟩ := getI_some i2
      have i2x := idxI (f := (fun x => [AC.int .i64 x])) i2
      rcases Bool.eq_false_or_eq_true (decide (x_4 ≠ x_5)) with q_6 | q_6
      · rw [q_6, cond_true] at hb1
        obtain rfl := Option.some.inj hb1
        have hx1 : gSameKinds_K1 (.inr false) = some _ := hk1
        unfold gSameKinds_K1 at hx1
        dsimp only at hx1
        obtain rfl := Option.some.inj hx1
        exact go_
      · rw [q_6, cond_false] at hb1
        obtain rfl := Option.some.inj hb1
        repeat' (first | refine p_ rfl rfl rfl rfl rfl ?_ | refine st_nil ?_ | refine x_ rfl rfl rfl rfl rfl rfl rfl rfl ?_ | refine l_ rfl rfl rfl rfl ?_ | refine s_ rfl rfl rfl ?_ | refine t_ rfl rfl rfl rfl ?_ | refine k_ rfl rfl rfl ?_ | refine k0_ rfl rfl ?_ | refine c_ rfl rfl rfl rfl ?_ | refine pick_t rfl rfl rfl rfl rfl rfl rfl ?_ | refine pick_f rfl rfl rfl rfl rfl rfl rfl ?_ | refine aw_seq ?_ | refine aw_region tab_ok _ rfl ?_ | refine aw_drawn2 tabS_ok _ rfl mixed (by decide +kernel) ?_ | refine aw_condT rfl ?_ | refine aw_condF rfl ?_ | refine aw_block ?_ | refine aw_exit ?_ | refine aw_ret ?_ | refine aw_skip ?_ | rw [List.length_map] | rw [mn_norm] | rw [mx_norm])
        exact ⟨_, rfl, fits_mk ⟨rfl, rfl, rfl, trivial⟩ [] rfl ⟨trivial, trivial, trivial, trivial⟩ trivial⟩
    · rw [q_3, cond_false] at hb1
      obtain rfl := Option.some.inj hb1
      have hx1 : gSameKinds_K1 (.inl i_2) = some _ := hk1
      unfold gSameKinds_K1 at hx1
      dsimp only at hx1
      obtain rfl := Option.some.inj hx1
      exact go_
end Go.Proofs.YtfccopdbgfdcdaaGreatDoor
namespace Go.Proofs.YtfccopdbgfdcdaaGreatDoor
open Go.RowKit Go.MapKept
section
variable {P : Program} {ti : TI} {B : Nat → Prop} {N n0 : Nat} {R : PH} {γ : List Gh} {L : List Ob} {T : Tm} {w : World} {Q : AX → Tm → List Ob → Prop}
theorem aw_normRow {c : Code} (id : Nat) {ver k : Nat} {es : List (List SV)} {cs : List (List AC)} (hL : L[id]? = some (.row ver es k)) (hn : normR es = some cs) (h : Aw P N n0 c Q T (L.set id (.row ver (cs.map (List.map SV.c)) k))) : Aw P N n0 c Q T L := by
  intro hn0 B R γ w a hi hT
  have hlt : id < L.length := (List.getElem?_eq_some_iff.1 hL).1
  have hlen := normR_len hn
  have hM : Mv R R γ γ L (L.set id (.row ver (cs.map (List.map SV.c)) k)) := by
    refine ⟨PH.sub_refl _, by simp, fun t n k' _ e => ?_, fun t ver' es' k' _ e => ?_, fun _ _ e => e⟩
    · by_cases q : t = id
      · subst q; rw [List.getElem?_set_self hlt] at e; cases e
      · rw [List.getElem?_set_ne (Ne.symm q)] at e; exact ⟨n, e, Nat.le_refl _, fun _ => rfl⟩
    · by_cases q : t = id
      · subst q; rw [List.getElem?_set_self hlt] at e; injection e with e; injection e with e1 e2 e3; subst e1 e2 e3
        exact ⟨ver, es, hL, Nat.le_refl _, fun _ => ⟨by simp [hlen], rfl⟩⟩
      · rw [List.getElem?_set_ne (Ne.symm q)] at e; exact ⟨ver', es', e, Nat.le_refl _, fun _ => ⟨rfl, rfl⟩⟩
  have hI : Inv B R γ (L.set id (.row ver (cs.map (List.map SV.c)) k)) w := by
    refine ⟨by simp [hi.len], hi.val, fun t x g hx hg => ?_, hi.inj, hi.new, hi.bsz⟩
    by_cases q : t = id
    · subst q
      rw [List.getElem?_set_self hlt] at hx; injection hx with hx; subst hx
      have ho := hi.obj t _ _ hL hg
      match g, ho with
      | .none, ho =>
        have ho : es = [] := ho
        subst ho
        have : cs = [] := List.eq_nil_of_length_eq_zero (by rw [← hlen]; rfl)
        subst this
        exact rfl
      | .arr b cc, ⟨⟨vs, E, h1, h2, h3⟩, h4, h5, h6, h7⟩ =>
        refine ⟨⟨vs, E, h1, h2, fun i e j u x he hu hx => ?_⟩, by simpa [hlen] using h4, h5, fun e he => ?_, h7⟩
        · rw [List.getElem?_map] at he
          cases hc : cs[i]? with
          | none => rw [hc] at he; cases he
          | some c0 =>
            rw [hc] at he; injection he with he; subst he
            obtain ⟨e0, he0, hn0'⟩ := normR_get hn i c0 hc
            rw [List.getElem?_map] at hx
            cases hj : c0[j]? with
            | none => rw [hj] at hx; cases hx
            | some y =>
              rw [hj] at hx; injection hx with hx; subst hx
              obtain ⟨x0, hx0⟩ := get_of_lt (show j < e0.length by rw [← normL_len hn0']; exact (List.getElem?_eq_some_iff.1 hj).1)
              exact SV.norm_rep (h3 i e0 j u x0 he0 hu hx0) (normL_get hn0' j x0 y hx0 hj)
        · obtain ⟨c0, hc0, rfl⟩ := List.mem_map.1 he
          obtain ⟨i, hi0⟩ := List.getElem?_of_mem hc0
          obtain ⟨e0, he0, hn0'⟩ := normR_get hn i c0 hi0
          rw [List.length_map, normL_len hn0']
          exact h6 e0 (List.mem_of_getElem? he0)
    · rw [List.getElem?_set_ne (Ne.symm q)] at hx
      exact (hi.obj t x g hx hg).mv hM (fun _ _ => rfl) (fun _ _ _ e => e)
  refine wp_mono (h (by simpa using hn0) B R γ w a hI (hT.mv hM)) fun _ _ _ hh => hh.ext (Ext.refl _ _ _) hi.len (MvN.of hn0 hM)
end
end Go.Proofs.YtfccopdbgfdcdaaGreatDoor
namespace Go.Proofs.YtfccopdbgfdcdaaGreatDoor
open Go.RowKit Go.MapKept
set_option maxRecDepth 100000
theorem mem_below : ∀ {n : Nat} {L : List Ob}, belowL n L → ∀ x ∈ L, x.below n
  | _, _ :: _, h, x, hx => by
    rcases List.mem_cons.1 hx with rfl | hx
    · exact h.1
    · exact mem_below h.2 x hx
def gC (x : AC) : List SV := [.c x]
end Go.Proofs.YtfccopdbgfdcdaaGreatDoor
namespace Go.Proofs.YtfccopdbgfdcdaaGreatDoor
open Go.RowKit Go.MapKept
set_option maxRecDepth 100000
def tabXS : TI := { tabX with soft := true }
theorem tabXS_ok : TIok Tryz.prog tabXS := ⟨tabX_ok.size, tabX_ok.agg, tabX_ok.elem, tabX_ok.field, tabX_ok.zero, tabX_ok.bytes, tabX_ok.kind, tabX_ok.struct, tabX_ok.zok, tabX_ok.eqs⟩
theorem row_ren (σ : List Nat) (v k : Nat) (l : List AC) : (Ob.row v (l.map gC) k).ren σ = Ob.row v (l.map gC) k := by
  simp only [Ob.ren, List.map_map]; rfl
theorem j1 {L L' : List Ob} {v k : Nat} {l : List AC} (h : L.set 0 (Ob.row v (l.map gC) k) = L') : joinL [0] L [Ob.row v (l.map gC) k] = L' := by
  subst h
  simp [joinL, join, setAll, outIds, newIds, row_ren]
theorem args_below {n : Nat} {l : List AV} (h : belowT n (l.map fun x => (0, x))) : ∀ y ∈ l, y.below n := by
  induction l with
  | nil => intro y hy; cases hy
  | cons x l ih =>
    intro y hy
    rcases List.mem_cons.1 hy with rfl | hy
    · exact h.1
    · exact ih h.2 y hy
def vOf : List AC → Val
  | [.int _ k, .int _ n, .str t] => ⟨k, n, t⟩
  | _ => ⟨0, 0, ⟨#[]⟩⟩
def tcmp : AC → AC → Int
  | .lst a, .lst b => rcmp (a.map vOf) (b.map vOf)
  | _, _ => 0
theorem vOf_cV (l : List Val) : (l.map cV).map vOf = l := by
  rw [List.map_map]
  have : vOf ∘ cV = id := rfl
  rw [this, List.map_id]
end Go.Proofs.YtfccopdbgfdcdaaGreatDoor
