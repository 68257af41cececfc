/- Parts of the proof, joined. No condition. -/
import Derived.Test.YtnbnpnmkgemdeaaGreatDoorKBK
import Derived.Test.YtnbnpnmkgemdeaaGreatDoorKAP
import Derived.Test.YtnbnpnmkgemdeaaGreatDoorKYA
set_option linter.unusedSimpArgs false
set_option linter.unusedVariables false
namespace Go.Proofs.YtnbnpnmkgemdeaaGreatDoor
open Go.RowKit Go.MapKept
set_option maxRecDepth 100000
set_option maxHeartbeats 8000000
set_option linter.unusedVariables false
set_option linter.unusedSimpArgs false
def gPrintable_B1 (a_s : ByteArray) : (Int) → Option (Step (Int) (Bool)) := fun s => match s with
  | i_1 => bif (decide (i_1 < ((a_s.size : Nat) : Int))) then
    (getB a_s i_1).bind fun b_3 => bif (decide (((b_3.toNat : Nat) : Int) < (32 : Int))) then
      some (.ret false)
    else
      bif (decide ((126 : Int) < ((b_3.toNat : Nat) : Int))) then
        some (.ret false)
      else
        some (.next (IntKind.i64.wrap (i_1 + (1 : Int))))
  else
    some (.exit i_1)
def gPrintable_K1 : Sum (Int) (Bool) → Option ((Bool))
  | .inl i_1 => some true
  | .inr q => some q
def gPrintable (a_s : ByteArray) : Option (Bool) := (loopM (gPrintable_B1 a_s) fuel (0 : Int)).bind (gPrintable_K1)
theorem gPrintable_ok {a_s : ByteArray} {r : Bool} (H : gPrintable a_s = some r) : Pure Tryz.prog 103 [.one (.str a_s)] (.val (.one (.bool r))) := by
  unfold gPrintable at H
  refine pure_of_aw tab_ok Tryz.func103 rfl rfl Tryz.ntmps103 (by simp) ?_
  simp only [argT, PV.av, List.map_cons, List.map_nil]
  repeat' (first | refine p_ rfl rfl rfl rfl rfl ?_ | refine st_nil ?_ | refine x_ rfl rfl rfl rfl rfl rfl rfl rfl ?_ | refine l_ rfl rfl rfl rfl ?_ | refine s_ rfl rfl rfl ?_ | refine t5_ rfl rfl rfl rfl ?_ | refine k_ rfl rfl rfl ?_ | refine k0_ rfl rfl ?_ | refine c_ rfl rfl rfl rfl ?_ | refine pick_t rfl rfl rfl rfl rfl rfl rfl ?_ | refine pick_f rfl rfl rfl rfl rfl rfl rfl ?_ | refine aw_seq ?_ | refine aw_region tab_ok _ rfl ?_ | refine aw_drawn2 tabS_ok _ rfl mixed (by decide +kernel) ?_ | refine aw_condT rfl ?_ | refine aw_condF rfl ?_ | refine aw_block ?_ | refine aw_exit ?_ | refine aw_ret ?_ | refine aw_skip ?_ | rw [List.length_map] | rw [mn_norm] | rw [mx_norm] | refine b_ rfl rfl rfl rfl rfl rfl rfl ?_)
  refine aw_loopM (fun s : Int => match s with | i_1 => [(0, .one (.c (.str a_s))), (3, .one (.c (.int .i64 i_1)))]) (fun s => match s with | i_1 => []) H (fun _ => Nat.zero_le _)
    (fits_mk ⟨rfl, rfl, trivial⟩ [] rfl ⟨trivial, trivial, trivial⟩ trivial) ?_
  rintro i_1 st1 hb1 hk1
  unfold gPrintable_B1 at hb1
  dsimp only at hb1 ⊢
  rcases Bool.eq_false_or_eq_true (decide (i_1 < ((a_s.size : Nat) : Int))) with q_2 | q_2
  · rw [q_2, cond_true] at hb1
    obtain ⟨b_3, i1, hb1⟩ := bind_some hb1
    obtain ⟨i1z, i1⟩ := getB_some i1
    rcases Bool.eq_false_or_eq_true (decide (((b_3.toNat : Nat) : Int) < (32 : Int))) with q_4 | q_4
    · rw [q_4, cond_true] at hb1
      obtain rfl := Option.some.inj hb1
      have hx1 : gPrintable_K1 (.inr false) = some _ := hk1
      unfold gPrintable_K1 at hx1
      dsimp only at hx1
      obtain rfl := Option.some.inj hx1
      repeat' (first | refine p_ rfl rfl rfl rfl rfl ?_ | refine st_nil ?_ | refine x_ rfl rfl rfl rfl rfl rfl rfl rfl ?_ | refine l_ rfl rfl rfl rfl ?_ | refine s_ rfl rfl rfl ?_ | refine t5_ rfl rfl rfl rfl ?_ | refine k_ rfl rfl rfl ?_ | refine k0_ rfl rfl ?_ | refine c_ rfl rfl rfl rfl ?_ | refine pick_t rfl rfl rfl rfl rfl rfl rfl ?_ | refine pick_f rfl rfl rfl rfl rfl rfl rfl ?_ | refine aw_seq ?_ | refine aw_region tab_ok _ rfl ?_ | refine aw_drawn2 tabS_ok _ rfl mixed (by decide +kernel) ?_ | refine aw_condT rfl ?_ | refine aw_condF rfl ?_ | refine aw_block ?_ | refine aw_exit ?_ | refine aw_ret ?_ | refine aw_skip ?_ | rw [List.length_map] | rw [mn_norm] | rw [mx_norm] | refine b_ rfl rfl rfl rfl rfl rfl rfl ?_)
      refine end_ret (res_of rfl ?_ ?_)
      · repeat' (first | exact trivial | rfl | exact Nat.le_of_ble_eq_true rfl | omega | apply And.intro)
      · first | rfl | (simp only [List.map_append, List.map_cons, List.map_nil, List.nil_append] <;> rfl)
    · rw [q_4, cond_false] at hb1
      rcases Bool.eq_false_or_eq_true (decide ((126 : Int) < ((b_3.toNat : Nat) : Int))) with q_5 | q_5
      · rw [q_5, cond_true] at hb1
        obtain rfl := Option.some.inj hb1
        have hx1 : gPrintable_K1 (.inr false) = some _ := hk1
        unfold gPrintable_K1 at hx1
        dsimp only at hx1
        obtain rfl := Option.some.inj hx1
        repeat' (first | refine p_ rfl rfl rfl rfl rfl ?_ | refine st_nil ?_ | refine x_ rfl rfl rfl rfl rfl rfl rfl rfl ?_ | refine l_ rfl rfl rfl rfl ?_ | refine s_ rfl rfl rfl ?_ | refine t5_ rfl rfl rfl rfl ?_ | refine k_ rfl rfl rfl ?_ | refine k0_ rfl rfl ?_ | refine c_ rfl rfl rfl rfl ?_ | refine pick_t rfl rfl rfl rfl rfl rfl rfl ?_ | refine pick_f rfl rfl rfl rfl rfl rfl rfl ?_ | refine aw_seq ?_ | refine aw_region tab_ok _ rfl ?_ | refine aw_drawn2 tabS_ok _ rfl mixed (by decide +kernel) ?_ | refine aw_condT rfl ?_ | refine aw_condF rfl ?_ | refine aw_block ?_ | refine aw_exit ?_ | refine aw_ret ?_ | refine aw_skip ?_ | rw [List.length_map] | rw [mn_norm] | rw [mx_norm] | refine b_ rfl rfl rfl rfl rfl rfl rfl ?_)
        refine end_ret (res_of rfl ?_ ?_)
        · repeat' (first | exact trivial | rfl | exact Nat.le_of_ble_eq_true rfl | omega | apply And.intro)
        · first | rfl | (simp only [List.map_append, List.map_cons, List.map_nil, List.nil_append] <;> rfl)
      · rw [q_5, cond_false] at hb1
        obtain rfl := Option.some.inj hb1
        repeat' (first | refine p_ rfl rfl rfl rfl rfl ?_ | refine st_nil ?_ | refine x_ rfl rfl rfl rfl rfl rfl rfl rfl ?_ | refine l_ rfl rfl rfl rfl ?_ | refine s_ rfl rfl rfl ?_ | refine t5_ rfl rfl rfl rfl ?_ | refine k_ rfl rfl rfl ?_ | refine k0_ rfl rfl ?_ | refine c_ rfl rfl rfl rfl ?_ | refine pick_t rfl rfl rfl rfl rfl rfl rfl ?_ | refine pick_f rfl rfl rfl rfl rfl rfl rfl ?_ | refine aw_seq ?_ | refine aw_region tab_ok _ rfl ?_ | refine aw_drawn2 tabS_ok _ rfl mixed (by decide +kernel) ?_ | refine aw_condT rfl ?_ | refine aw_condF rfl ?_ | refine aw_block ?_ | refine aw_exit ?_ | refine aw_ret ?_ | refine aw_skip ?_ | rw [List.length_map] | rw [mn_norm] | rw [mx_norm] | refine b_ rfl rfl rfl rfl rfl rfl rfl ?_)
        exact ⟨_, rfl, fits_mk ⟨rfl, rfl, trivial⟩ [] rfl ⟨trivial, trivial, trivial⟩ trivial⟩
  · rw [q_2, cond_false] at hb1
    obtain rfl := Option.some.inj hb1
    have hx1 : gPrintable_K1 (.inl i_1) = some _ := hk1
    unfold gPrintable_K1 at hx1
    dsimp only at hx1
    obtain rfl := Option.some.inj hx1
    exact go_
def gValidR (a_v : Val) : Option (Bool) := bif (decide (a_v.kind = (0 : Int))) then
  bif (decide (a_v.int = (0 : Int))) then
    some (a_v.text.toList == (⟨#[]⟩ : ByteArray).toList)
  else
    some false
 else
  bif (decide (a_v.kind = (1 : Int))) then
    bif (a_v.text.toList == (⟨#[]⟩ : ByteArray).toList) then
      bif (decide ((-1125899906842624 : Int) ≤ a_v.int)) then
        some (decide (a_v.int ≤ (1125899906842624 : Int)))
      else
        some false
    else
      some false
  else
    bif (decide (a_v.kind = (2 : Int))) then
      bif (decide (a_v.int = (0 : Int))) then
        bif (decide (((a_v.text.size : Nat) : Int) ≤ (200 : Int))) then
          (gPrintable a_v.text).bind fun r_9 => some r_9
        else
          some false
      else
        some false
    else
      bif (decide (a_v.kind = (3 : Int))) then
        bif (a_v.text.toList == (⟨#[]⟩ : ByteArray).toList) then
          bif (decide (a_v.int = (0 : Int))) then
            some true
          else
            some (decide (a_v.int = (1 : Int)))
        else
          some false
      else
        some false
theorem gValidR_ok {a_v : Val} {r : Bool} (H : gValidR a_v = some r) : Pure Tryz.prog 77 [.agg (cV a_v)] (.val (.one (.bool r))) := by
  unfold gValidR at H
  refine pure_of_aw tab_ok Tryz.func77 rfl rfl Tryz.ntmps77 (by simp) ?_
  simp only [argT, PV.av, List.map_cons, List.map_nil]
  rcases Bool.eq_false_or_eq_true (decide (a_v.kind = (0 : Int))) with q_1 | q_1
  · rw [q_1, cond_true] at H
    rcases Bool.eq_false_or_eq_true (decide (a_v.int = (0 : Int))) with q_2 | q_2
    · rw [q_2, cond_true] at H
      obtain rfl := Option.some.inj H
      exact go_
    · rw [q_2, cond_false] at H
      obtain rfl := Option.some.inj H
      exact go_
  · rw [q_1, cond_false] at H
    rcases Bool.eq_false_or_eq_true (decide (a_v.kind = (1 : Int))) with q_3 | q_3
    · rw [q_3, cond_true] at H
      rcases Bool.eq_false_or_eq_true (a_v.text.toList == (⟨#[]⟩ : ByteArray).toList) with q_4 | q_4
      · rw [q_4, cond_true] at H
        rcases Bool.eq_false_or_eq_true (decide ((-1125899906842624 : Int) ≤ a_v.int)) with q_5 | q_5
        · rw [q_5, cond_true] at H
          obtain rfl := Option.some.inj H
          exact go_
        · rw [q_5, cond_false] at H
          obtain rfl := Option.some.inj H
          exact go_
      · rw [q_4, cond_false] at H
        obtain rfl := Option.some.inj H
        exact go_
    · rw [q_3, cond_false] at H
      rcases Bool.eq_false_or_eq_true (decide (a_v.kind = (2 : Int))) with q_6 | q_6
      · rw [q_6, cond_true] at H
        rcases Bool.eq_false_or_eq_true (decide (a_v.int = (0 : Int))) with q_7 | q_7
        · rw [q_7, cond_true] at H
          rcases Bool.eq_false_or_eq_true (decide (((a_v.text.size : Nat) : Int) ≤ (200 : Int))) with q_8 | q_8
          · rw [q_8, cond_true] at H
            obtain ⟨r_9, c1, H⟩ := bind_some H
            replace c1 := gPrintable_ok c1
            try simp only [List.map_append, List.map_cons, List.map_nil, List.nil_append, tE_eq, tP_eq] at c1
            obtain rfl := Option.some.inj H
            exact go_
          · rw [q_8, cond_false] at H
            obtain rfl := Option.some.inj H
            exact go_
        · rw [q_7, cond_false] at H
          obtain rfl := Option.some.inj H
          exact go_
      · rw [q_6, cond_false] at H
        rcases Bool.eq_false_or_eq_true (decide (a_v.kind = (3 : Int))) with q_10 | q_10
        · rw [q_10, cond_true] at H
          rcases Bool.eq_false_or_eq_true (a_v.text.toList == (⟨#[]⟩ : ByteArray).toList) with q_11 | q_11
          · rw [q_11, cond_true] at H
            rcases Bool.eq_false_or_eq_true (decide (a_v.int = (0 : Int))) with q_12 | q_12
            · rw [q_12, cond_true] at H
              obtain rfl := Option.some.inj H
              exact go_
            · rw [q_12, cond_false] at H
              obtain rfl := Option.some.inj H
              exact go_
          · rw [q_11, cond_false] at H
            obtain rfl := Option.some.inj H
            exact go_
        · rw [q_10, cond_false] at H
          obtain rfl := Option.some.inj H
          exact go_
def gvalidR (a_v : Val) : Option (Val) := (gValidR a_v).bind fun r_1 => bif r_1 then
  some a_v
 else
  (gNullR ).bind fun r_3 => some r_3
theorem gvalidR_ok {a_v : Val} {r : Val} (H : gvalidR a_v = some r) : Pure Tryz.prog 109 [.agg (cV a_v)] (.val (.agg (cV r))) := by
  unfold gvalidR at H
  refine pure_of_aw tab_ok Tryz.func109 rfl rfl Tryz.ntmps109 (by simp) ?_
  simp only [argT, PV.av, List.map_cons, List.map_nil]
  obtain ⟨r_1, c1, H⟩ := bind_some H
  replace c1 := gValidR_ok c1
  try simp only [List.map_append, List.map_cons, List.map_nil, List.nil_append, tE_eq, tP_eq] at c1
  rcases Bool.eq_false_or_eq_true r_1 with q_2 | q_2
  · rw [q_2, cond_true] at H
    obtain rfl := Option.some.inj H
    exact go_
  · rw [q_2, cond_false] at H
    obtain ⟨r_3, c2, H⟩ := bind_some H
    replace c2 := gNullR_ok c2
    try simp only [List.map_append, List.map_cons, List.map_nil, List.nil_append, tE_eq, tP_eq] at c2
    obtain rfl := Option.some.inj H
    exact go_
def gIntR (a_n : Int) : Option (Val) := (gvalidR (⟨(1 : Int), a_n, ByteArray.empty⟩ : Val)).bind fun r_1 => some r_1
theorem gIntR_ok {a_n : Int} {r : Val} (H : gIntR a_n = some r) : Pure Tryz.prog 82 [.one (.int .i64 a_n)] (.val (.agg (cV r))) := by
  unfold gIntR at H
  refine pure_of_aw tab_ok Tryz.func82 rfl rfl Tryz.ntmps82 (by simp) ?_
  simp only [argT, PV.av, List.map_cons, List.map_nil]
  obtain ⟨r_1, c1, H⟩ := bind_some H
  replace c1 := gvalidR_ok c1
  try simp only [List.map_append, List.map_cons, List.map_nil, List.nil_append, tE_eq, tP_eq] at c1
  obtain rfl := Option.some.inj H
  exact go_
def gFits8_B1 (a_row : (List Val)) (a_kinds : (List Int)) : (Int) → Option (Step (Int) (Bool)) := fun s => match s with
  | i_2 => bif (decide (i_2 < ((a_row.length : Nat) : Int))) then
    (getI a_row i_2).bind fun x_4 => (gValidR x_4).bind fun r_5 => bif (!r_5) then
      some (.ret false)
    else
      bif (decide (x_4.kind ≠ (0 : Int))) then
        (getI a_kinds i_2).bind fun x_8 => bif (decide (x_4.kind ≠ x_8)) then
          some (.ret false)
        else
          some (.next (IntKind.i64.wrap (i_2 + (1 : Int))))
      else
        some (.next (IntKind.i64.wrap (i_2 + (1 : Int))))
  else
    some (.exit i_2)
def gFits8_K1 : Sum (Int) (Bool) → Option ((Bool))
  | .inl i_2 => some true
  | .inr q => some q
def gFits8 (a_row : (List Val)) (a_kinds : (List Int)) : Option (Bool) := bif (decide (((a_row.length : Nat) : Int) ≠ ((a_kinds.length : Nat) : Int))) then
  some false
 else
  (loopM (gFits8_B1 a_row a_kinds) fuel (0 : Int)).bind (gFits8_K1)
theorem gFits8_ok {a_row : (List Val)} {a_kinds : (List Int)} {r : Bool} (H : gFits8 a_row a_kinds = some r) : Pure Tryz.prog 47 [.one (.lst (a_row.map cV)), .one (.lst (a_kinds.map (fun x => [AC.int .i64 x])))] (.val (.one (.bool r))) := by
  unfold gFits8 at H
  refine pure_of_aw tab_ok Tryz.func47 rfl rfl Tryz.ntmps47 (by simp) ?_
  simp only [argT, PV.av, List.map_cons, List.map_nil]
  rcases Bool.eq_false_or_eq_true (decide (((a_row.length : Nat) : Int) ≠ ((a_kinds.length : Nat) : Int))) with q_1 | q_1
  · rw [q_1, cond_true] at H
    obtain rfl := Option.some.inj H
    exact go_
  · rw [q_1, cond_false] at H
    repeat' (first | refine p_ rfl rfl rfl rfl rfl ?_ | refine st_nil ?_ | refine x_ rfl rfl rfl rfl rfl rfl rfl rfl ?_ | refine l_ rfl rfl rfl rfl ?_ | refine s_ rfl rfl rfl ?_ | refine t_ rfl rfl rfl rfl ?_ | refine k_ rfl rfl rfl ?_ | refine k0_ rfl rfl ?_ | refine c_ rfl rfl rfl rfl ?_ | refine pick_t rfl rfl rfl rfl rfl rfl rfl ?_ | refine pick_f rfl rfl rfl rfl rfl rfl rfl ?_ | refine aw_seq ?_ | refine aw_region tab_ok _ rfl ?_ | refine aw_drawn2 tabS_ok _ rfl mixed (by decide +kernel) ?_ | refine aw_condT rfl ?_ | refine aw_condF rfl ?_ | refine aw_block ?_ | refine aw_exit ?_ | refine aw_ret ?_ | refine aw_skip ?_ | rw [List.length_map] | rw [mn_norm] | rw [mx_norm])
    refine aw_loopM (fun s : Int => match s with | i_2 => [(0, .one (.c (.lst (a_row.map cV)))), (1, .one (.c (.lst (a_kinds.map (fun x => [AC.int .i64 x]))))), (5, .one (.c (.int .i64 i_2)))]) (fun s => match s with | i_2 => []) H (fun _ => Nat.zero_le _)
      (fits_mk ⟨rfl, rfl, rfl, trivial⟩ [] rfl ⟨trivial, trivial, trivial, trivial⟩ trivial) ?_
    rintro i_2 st1 hb1 hk1
    unfold gFits8_B1 at hb1
    dsimp only at hb1 ⊢
    rcases Bool.eq_false_or_eq_true (decide (i_2 < ((a_row.length : Nat) : Int))) with q_3 | q_3
    · rw [q_3, cond_true] at hb1
      obtain ⟨x_4, i1, hb1⟩ := bind_some hb1
      obtain ⟨i1z, i1⟩ := getI_some i1
      have i1x := idxI (f := cV) i1
      obtain ⟨r_5, c2, hb1⟩ := bind_some hb1
      replace c2 := gValidR_ok c2
      try simp only [List.map_append, List.map_cons, List.map_nil, List.nil_append, tE_eq, tP_eq] at c2
      rcases Bool.eq_false_or_eq_true (!r_5) with q_6 | q_6
      · rw [q_6, cond_true] at hb1
        obtain rfl := Option.some.inj hb1
        have hx1 : gFits8_K1 (.inr false) = some _ := hk1
        unfold gFits8_K1 at hx1
        dsimp only at hx1
        obtain rfl := Option.some.inj hx1
        exact go_
      · rw [q_6, cond_false] at hb1
        rcases Bool.eq_false_or_eq_true (decide (x_4.kind ≠ (0 : Int))) with q_7 | q_7
        · rw [q_7, cond_true] at hb1
          obtain ⟨x_8, i3, hb1⟩ := bind_some hb1
          obtain ⟨i3z, i3⟩ := getI_some i3
          have i3x := idxI (f := (fun x => [AC.int .i64 x])) i3
          rcases Bool.eq_false_or_eq_true (decide (x_4.kind ≠ x_8)) with q_9 | q_9
          · rw [q_9, cond_true] at hb1
            obtain rfl := Option.some.inj hb1
            have hx1 : gFits8_K1 (.inr false) = some _ := hk1
            unfold gFits8_K1 at hx1
            dsimp only at hx1
            obtain rfl := Option.some.inj hx1
            exact go_
          · rw [q_9, cond_false] at hb1
            obtain rfl := Option.some.inj hb1
            repeat' (first | refine p_ rfl rfl rfl rfl rfl ?_ | refine st_nil ?_ | refine x_ rfl rfl rfl rfl rfl rfl rfl rfl ?_ | refine l_ rfl rfl rfl rfl ?_ | refine s_ rfl rfl rfl ?_ | refine t_ rfl rfl rfl rfl ?_ | refine k_ rfl rfl rfl ?_ | refine k0_ rfl rfl ?_ | refine c_ rfl rfl rfl rfl ?_ | refine pick_t rfl rfl rfl rfl rfl rfl rfl ?_ | refine pick_f rfl rfl rfl rfl rfl rfl rfl ?_ | refine aw_seq ?_ | refine aw_region tab_ok _ rfl ?_ | refine aw_drawn2 tabS_ok _ rfl mixed (by decide +kernel) ?_ | refine aw_condT rfl ?_ | refine aw_condF rfl ?_ | refine aw_block ?_ | refine aw_exit ?_ | refine aw_ret ?_ | refine aw_skip ?_ | rw [List.length_map] | rw [mn_norm] | rw [mx_norm])
            exact ⟨_, rfl, fits_mk ⟨rfl, rfl, rfl, trivial⟩ [] rfl ⟨trivial, trivial, trivial, trivial⟩ trivial⟩
        · rw [q_7, cond_false] at hb1
          obtain rfl := Option.some.inj hb1
          repeat' (first | refine p_ rfl rfl rfl rfl rfl ?_ | refine st_nil ?_ | refine x_ rfl rfl rfl rfl rfl rfl rfl rfl ?_ | refine l_ rfl rfl rfl rfl ?_ | refine s_ rfl rfl rfl ?_ | refine t_ rfl rfl rfl rfl ?_ | refine k_ rfl rfl rfl ?_ | refine k0_ rfl rfl ?_ | refine c_ rfl rfl rfl rfl ?_ | refine pick_t rfl rfl rfl rfl rfl rfl rfl ?_ | refine pick_f rfl rfl rfl rfl rfl rfl rfl ?_ | refine aw_seq ?_ | refine aw_region tab_ok _ rfl ?_ | refine aw_drawn2 tabS_ok _ rfl mixed (by decide +kernel) ?_ | refine aw_condT rfl ?_ | refine aw_condF rfl ?_ | refine aw_block ?_ | refine aw_exit ?_ | refine aw_ret ?_ | refine aw_skip ?_ | rw [List.length_map] | rw [mn_norm] | rw [mx_norm])
          exact ⟨_, rfl, fits_mk ⟨rfl, rfl, rfl, trivial⟩ [] rfl ⟨trivial, trivial, trivial, trivial⟩ trivial⟩
    · rw [q_3, cond_false] at hb1
      obtain rfl := Option.some.inj hb1
      have hx1 : gFits8_K1 (.inl i_2) = some _ := hk1
      unfold gFits8_K1 at hx1
      dsimp only at hx1
      obtain rfl := Option.some.inj hx1
      exact go_
def gKind (a_k : Int) : Option (Bool) := bif (decide (a_k = (1 : Int))) then
  some true
 else
  bif (decide (a_k = (2 : Int))) then
    some true
  else
    some (decide (a_k = (3 : Int)))
theorem gKind_ok {a_k : Int} {r : Bool} (H : gKind a_k = some r) : Pure Tryz.prog 78 [.one (.int .i64 a_k)] (.val (.one (.bool r))) := by
  unfold gKind at H
  refine pure_of_aw tab_ok Tryz.func78 rfl rfl Tryz.ntmps78 (by simp) ?_
  simp only [argT, PV.av, List.map_cons, List.map_nil]
  rcases Bool.eq_false_or_eq_true (decide (a_k = (1 : Int))) with q_1 | q_1
  · rw [q_1, cond_true] at H
    obtain rfl := Option.some.inj H
    exact go_
  · rw [q_1, cond_false] at H
    rcases Bool.eq_false_or_eq_true (decide (a_k = (2 : Int))) with q_2 | q_2
    · rw [q_2, cond_true] at H
      obtain rfl := Option.some.inj H
      exact go_
    · rw [q_2, cond_false] at H
      obtain rfl := Option.some.inj H
      exact go_
def gKinds_B1 (a_l : (List Int)) : (Int) → Option (Step (Int) (Bool)) := fun s => match s with
  | i_1 => bif (decide (i_1 < ((a_l.length : Nat) : Int))) then
    (getI a_l i_1).bind fun x_3 => (gKind x_3).bind fun r_4 => bif (!r_4) then
      some (.ret false)
    else
      some (.next (IntKind.i64.wrap (i_1 + (1 : Int))))
  else
    some (.exit i_1)
def gKinds_K1 : Sum (Int) (Bool) → Option ((Bool))
  | .inl i_1 => some true
  | .inr q => some q
def gKinds (a_l : (List Int)) : Option (Bool) := (loopM (gKinds_B1 a_l) fuel (0 : Int)).bind (gKinds_K1)
theorem gKinds_ok {a_l : (List Int)} {r : Bool} (H : gKinds a_l = some r) : Pure Tryz.prog 48 [.one (.lst (a_l.map (fun x => [AC.int .i64 x])))] (.val (.one (.bool r))) := by
  unfold gKinds at H
  refine pure_of_aw tab_ok Tryz.func48 rfl rfl Tryz.ntmps48 (by simp) ?_
  simp only [argT, PV.av, List.map_cons, List.map_nil]
  repeat' (first | refine p_ rfl rfl rfl rfl rfl ?_ | refine st_nil ?_ | refine x_ rfl rfl rfl rfl rfl rfl rfl rfl ?_ | refine l_ rfl rfl rfl rfl ?_ | refine s_ rfl rfl rfl ?_ | refine t_ rfl rfl rfl rfl ?_ | refine k_ rfl rfl rfl ?_ | refine k0_ rfl rfl ?_ | refine c_ rfl rfl rfl rfl ?_ | refine pick_t rfl rfl rfl rfl rfl rfl rfl ?_ | refine pick_f rfl rfl rfl rfl rfl rfl rfl ?_ | refine aw_seq ?_ | refine aw_region tab_ok _ rfl ?_ | refine aw_drawn2 tabS_ok _ rfl mixed (by decide +kernel) ?_ | refine aw_condT rfl ?_ | refine aw_condF rfl ?_ | refine aw_block ?_ | refine aw_exit ?_ | refine aw_ret ?_ | refine aw_skip ?_ | rw [List.length_map] | rw [mn_norm] | rw [mx_norm])
  refine aw_loopM (fun s : Int => match s with | i_1 => [(0, .one (.c (.lst (a_l.map (fun x => [AC.int .i64 x]))))), (3, .one (.c (.int .i64 i_1)))]) (fun s => match s with | i_1 => []) H (fun _ => Nat.zero_le _)
    (fits_mk ⟨rfl, rfl, trivial⟩ [] rfl ⟨trivial, trivial, trivial⟩ trivial) ?_
  rintro i_1 st1 hb1 hk1
  unfold gKinds_B1 at hb1
  dsimp only at hb1 ⊢
  rcases Bool.eq_false_or_eq_true (decide (i_1 < ((a_l.length : Nat) : Int))) with q_2 | q_2
  · rw [q_2, cond_true] at hb1
    obtain ⟨x_3, i1, hb1⟩ := bind_some hb1
    obtain ⟨i1z, i1⟩ := getI_some i1
    have i1x := idxI (f := (fun x => [AC.int .i64 x])) i1
    obtain ⟨r_4, c2, hb1⟩ := bind_some hb1
    replace c2 := gKind_ok c2
    try simp only [List.map_append, List.map_cons, List.map_nil, List.nil_append, tE_eq, tP_eq] at c2
    rcases Bool.eq_false_or_eq_true (!r_4) with q_5 | q_5
    · rw [q_5, cond_true] at hb1
      obtain rfl := Option.some.inj hb1
      have hx1 : gKinds_K1 (.inr false) = some _ := hk1
      unfold gKinds_K1 at hx1
      dsimp only at hx1
      obtain rfl := Option.some.inj hx1
      exact go_
    · rw [q_5, cond_false] at hb1
      obtain rfl := Option.some.inj hb1
      repeat' (first | refine p_ rfl rfl rfl rfl rfl ?_ | refine st_nil ?_ | refine x_ rfl rfl rfl rfl rfl rfl rfl rfl ?_ | refine l_ rfl rfl rfl rfl ?_ | refine s_ rfl rfl rfl ?_ | refine t_ rfl rfl rfl rfl ?_ | refine k_ rfl rfl rfl ?_ | refine k0_ rfl rfl ?_ | refine c_ rfl rfl rfl rfl ?_ | refine pick_t rfl rfl rfl rfl rfl rfl rfl ?_ | refine pick_f rfl rfl rfl rfl rfl rfl rfl ?_ | refine aw_seq ?_ | refine aw_region tab_ok _ rfl ?_ | refine aw_drawn2 tabS_ok _ rfl mixed (by decide +kernel) ?_ | refine aw_condT rfl ?_ | refine aw_condF rfl ?_ | refine aw_block ?_ | refine aw_exit ?_ | refine aw_ret ?_ | refine aw_skip ?_ | rw [List.length_map] | rw [mn_norm] | rw [mx_norm])
      exact ⟨_, rfl, fits_mk ⟨rfl, rfl, trivial⟩ [] rfl ⟨trivial, trivial, trivial⟩ trivial⟩
  · rw [q_2, cond_false] at hb1
    obtain rfl := Option.some.inj hb1
    have hx1 : gKinds_K1 (.inl i_1) = some _ := hk1
    unfold gKinds_K1 at hx1
    dsimp only at hx1
    obtain rfl := Option.some.inj hx1
    exact go_
def gSameKinds_B1 (a_a : (List Int)) (a_b : (List Int)) : (Int) → Option (Step (Int) (Bool)) := fun s => match s with
  | i_2 => bif (decide (i_2 < ((a_a.length : Nat) : Int))) then
    (getI a_a i_2).bind fun x_4 => (getI a_b i_2).bind fun x_5 => bif (decide (x_4 ≠ x_5)) then
      some (.ret false)
    else
      some (.next (IntKind.i64.wrap (i_2 + (1 : Int))))
  else
    some (.exit i_2)
def gSameKinds_K1 : Sum (Int) (Bool) → Option ((Bool))
  | .inl i_2 => some true
  | .inr q => some q
def gSameKinds (a_a : (List Int)) (a_b : (List Int)) : Option (Bool) := bif (decide (((a_a.length : Nat) : Int) ≠ ((a_b.length : Nat) : Int))) then
  some false
 else
  (loopM (gSameKinds_B1 a_a a_b) fuel (0 : Int)).bind (gSameKinds_K1)
theorem gSameKinds_ok {a_a : (List Int)} {a_b : (List Int)} {r : Bool} (H : gSameKinds a_a a_b = some r) : Pure Tryz.prog 49 [.one (.lst (a_a.map (fun x => [AC.int .i64 x]))), .one (.lst (a_b.map (fun x => [AC.int .i64 x])))] (.val (.one (.bool r))) := by
  unfold gSameKinds at H
  refine pure_of_aw tab_ok Tryz.func49 rfl rfl Tryz.ntmps49 (by simp) ?_
  simp only [argT, PV.av, List.map_cons, List.map_nil]
  rcases Bool.eq_false_or_eq_true (decide (((a_a.length : Nat) : Int) ≠ ((a_b.length : Nat) : Int))) with q_1 | q_1
  · rw [q_1, cond_true] at H
    obtain rfl := Option.some.inj H
    exact go_
  · rw [q_1, cond_false] at H
    repeat' (first | refine p_ rfl rfl rfl rfl rfl ?_ | refine st_nil ?_ | refine x_ rfl rfl rfl rfl rfl rfl rfl rfl ?_ | refine l_ rfl rfl rfl rfl ?_ | refine s_ rfl rfl rfl ?_ | refine t_ rfl rfl rfl rfl ?_ | refine k_ rfl rfl rfl ?_ | refine k0_ rfl rfl ?_ | refine c_ rfl rfl rfl rfl ?_ | refine pick_t rfl rfl rfl rfl rfl rfl rfl ?_ | refine pick_f rfl rfl rfl rfl rfl rfl rfl ?_ | refine aw_seq ?_ | refine aw_region tab_ok _ rfl ?_ | refine aw_drawn2 tabS_ok _ rfl mixed (by decide +kernel) ?_ | refine aw_condT rfl ?_ | refine aw_condF rfl ?_ | refine aw_block ?_ | refine aw_exit ?_ | refine aw_ret ?_ | refine aw_skip ?_ | rw [List.length_map] | rw [mn_norm] | rw [mx_norm])
    refine aw_loopM (fun s : Int => match s with | i_2 => [(0, .one (.c (.lst (a_a.map (fun x => [AC.int .i64 x]))))), (1, .one (.c (.lst (a_b.map (fun x => [AC.int .i64 x]))))), (5, .one (.c (.int .i64 i_2)))]) (fun s => match s with | i_2 => []) H (fun _ => Nat.zero_le _)
      (fits_mk ⟨rfl, rfl, rfl, trivial⟩ [] rfl ⟨trivial, trivial, trivial, trivial⟩ trivial) ?_
    rintro i_2 st1 hb1 hk1
    unfold gSameKinds_B1 at hb1
    dsimp only at hb1 ⊢
    rcases Bool.eq_false_or_eq_true (decide (i_2 < ((a_a.length : Nat) : Int))) with q_3 | q_3
    · rw [q_3, cond_true] at hb1
      obtain ⟨x_4, i1, hb1⟩ := bind_some hb1
      obtain ⟨i1z, i1⟩ := getI_some i1
      have i1x := idxI (f := (fun x => [AC.int .i64 x])) i1
      obtain ⟨x_5, i2, hb1⟩ := bind_some hb1
      obtain ⟨i2z, i2⟩ := getI_some i2
      have i2x := idxI (f := (fun x => [AC.int .i64 x])) i2
      rcases Bool.eq_false_or_eq_true (decide (x_4 ≠ x_5)) with q_6 | q_6
      · rw [q_6, cond_true] at hb1
        obtain rfl := Option.some.inj hb1
        have hx1 : gSameKinds_K1 (.inr false) = some _ := hk1
        unfold gSameKinds_K1 at hx1
        dsimp only at hx1
        obtain rfl := Option.some.inj hx1
        exact go_
      · rw [q_6, cond_false] at hb1
        obtain rfl := Option.some.inj hb1
        repeat' (first | refine p_ rfl rfl rfl rfl rfl ?_ | refine st_nil ?_ | refine x_ rfl rfl rfl rfl rfl rfl rfl rfl ?_ | refine l_ rfl rfl rfl rfl ?_ | refine s_ rfl rfl rfl ?_ | refine t_ rfl rfl rfl rfl ?_ | refine k_ rfl rfl rfl ?_ | refine k0_ rfl rfl ?_ | refine c_ rfl rfl rfl rfl ?_ | refine pick_t rfl rfl rfl rfl rfl rfl rfl ?_ | refine pick_f rfl rfl rfl rfl rfl rfl rfl ?_ | refine aw_seq ?_ | refine aw_region tab_ok _ rfl ?_ | refine aw_drawn2 tabS_ok _ rfl mixed (by decide +kernel) ?_ | refine aw_condT rfl ?_ | refine aw_condF rfl ?_ | refine aw_block ?_ | refine aw_exit ?_ | refine aw_ret ?_ | refine aw_skip ?_ | rw [List.length_map] | rw [mn_norm] | rw [mx_norm])
        exact ⟨_, rfl, fits_mk ⟨rfl, rfl, rfl, trivial⟩ [] rfl ⟨trivial, trivial, trivial, trivial⟩ trivial⟩
    · rw [q_3, cond_false] at hb1
      obtain rfl := Option.some.inj hb1
      have hx1 : gSameKinds_K1 (.inl i_2) = some _ := hk1
      unfold gSameKinds_K1 at hx1
      dsimp only at hx1
      obtain rfl := Option.some.inj hx1
      exact go_
def gSameRows_B1 (a_a : (List (List Val))) (a_b : (List (List Val))) : (Int) → Option (Step (Int) (Bool)) := fun s => match s with
  | i_2 => bif (decide (i_2 < ((a_a.length : Nat) : Int))) then
    (getI a_a i_2).bind fun x_4 => (getI a_b i_2).bind fun x_5 => (gEqual8 x_4 x_5).bind fun r_6 => bif (!r_6) then
      some (.ret false)
    else
      some (.next (IntKind.i64.wrap (i_2 + (1 : Int))))
  else
    some (.exit i_2)
def gSameRows_K1 : Sum (Int) (Bool) → Option ((Bool))
  | .inl i_2 => some true
  | .inr q => some q
def gSameRows (a_a : (List (List Val))) (a_b : (List (List Val))) : Option (Bool) := bif (decide (((a_a.length : Nat) : Int) ≠ ((a_b.length : Nat) : Int))) then
  some false
 else
  (loopM (gSameRows_B1 a_a a_b) fuel (0 : Int)).bind (gSameRows_K1)
theorem gSameRows_ok {a_a : (List (List Val))} {a_b : (List (List Val))} {r : Bool} (H : gSameRows a_a a_b = some r) : Pure Tryz.prog 26 [.one (.lst (a_a.map (fun x => [AC.lst (x.map cV)]))), .one (.lst (a_b.map (fun x => [AC.lst (x.map cV)])))] (.val (.one (.bool r))) := by
  unfold gSameRows at H
  refine pure_of_aw tab_ok Tryz.func26 rfl rfl Tryz.ntmps26 (by simp) ?_
  simp only [argT, PV.av, List.map_cons, List.map_nil]
  rcases Bool.eq_false_or_eq_true (decide (((a_a.length : Nat) : Int) ≠ ((a_b.length : Nat) : Int))) with q_1 | q_1
  · rw [q_1, cond_true] at H
    obtain rfl := Option.some.inj H
    exact go_
  · rw [q_1, cond_false] at H
    repeat' (first | refine p_ rfl rfl rfl rfl rfl ?_ | refine st_nil ?_ | refine x_ rfl rfl rfl rfl rfl rfl rfl rfl ?_ | refine l_ rfl rfl rfl rfl ?_ | refine s_ rfl rfl rfl ?_ | refine t_ rfl rfl rfl rfl ?_ | refine k_ rfl rfl rfl ?_ | refine k0_ rfl rfl ?_ | refine c_ rfl rfl rfl rfl ?_ | refine pick_t rfl rfl rfl rfl rfl rfl rfl ?_ | refine pick_f rfl rfl rfl rfl rfl rfl rfl ?_ | refine aw_seq ?_ | refine aw_region tab_ok _ rfl ?_ | refine aw_drawn2 tabS_ok _ rfl mixed (by decide +kernel) ?_ | refine aw_condT rfl ?_ | refine aw_condF rfl ?_ | refine aw_block ?_ | refine aw_exit ?_ | refine aw_ret ?_ | refine aw_skip ?_ | rw [List.length_map] | rw [mn_norm] | rw [mx_norm])
    refine aw_loopM (fun s : Int => match s with | i_2 => [(0, .one (.c (.lst (a_a.map (fun x => [AC.lst (x.map cV)]))))), (1, .one (.c (.lst (a_b.map (fun x => [AC.lst (x.map cV)]))))), (5, .one (.c (.int .i64 i_2)))]) (fun s => match s with | i_2 => []) H (fun _ => Nat.zero_le _)
      (fits_mk ⟨rfl, rfl, rfl, trivial⟩ [] rfl ⟨trivial, trivial, trivial, trivial⟩ trivial) ?_
    rintro i_2 st1 hb1 hk1
    unfold gSameRows_B1 at hb1
    dsimp only at hb1 ⊢
    rcases Bool.eq_false_or_eq_true (decide (i_2 < ((a_a.length : Nat) : Int))) with q_3 | q_3
    · rw [q_3, cond_true] at hb1
      obtain ⟨x_4, i1, hb1⟩ := bind_some hb1
      obtain ⟨i1z, i1⟩ := getI_some i1
      have i1x := idxI (f := (fun x => [AC.lst (x.map cV)])) i1
      obtain ⟨x_5, i2, hb1⟩ := bind_some hb1
      obtain ⟨i2z, i2⟩ := getI_some i2
      have i2x := idxI (f := (fun x => [AC.lst (x.map cV)])) i2
      obtain ⟨r_6, c3, hb1⟩ := bind_some hb1
      replace c3 := gEqual8_ok c3
      try simp only [List.map_append, List.map_cons, List.map_nil, List.nil_append, tE_eq, tP_eq] at c3
      rcases Bool.eq_false_or_eq_true (!r_6) with q_7 | q_7
      · rw [q_7, cond_true] at hb1
        obtain rfl := Option.some.inj hb1
        have hx1 : gSameRows_K1 (.inr false) = some _ := hk1
        unfold gSameRows_K1 at hx1
        dsimp only at hx1
        obtain rfl := Option.some.inj hx1
        exact go_
      · rw [q_7, cond_false] at hb1
        obtain rfl := Option.some.inj hb1
        repeat' (first | refine p_ rfl rfl rfl rfl rfl ?_ | refine st_nil ?_ | refine x_ rfl rfl rfl rfl rfl rfl rfl rfl ?_ | refine l_ rfl rfl rfl rfl ?_ | refine s_ rfl rfl rfl ?_ | refine t_ rfl rfl rfl rfl ?_ | refine k_ rfl rfl rfl ?_ | refine k0_ rfl rfl ?_ | refine c_ rfl rfl rfl rfl ?_ | refine pick_t rfl rfl rfl rfl rfl rfl rfl ?_ | refine pick_f rfl rfl rfl rfl rfl rfl rfl ?_ | refine aw_seq ?_ | refine aw_region tab_ok _ rfl ?_ | refine aw_drawn2 tabS_ok _ rfl mixed (by decide +kernel) ?_ | refine aw_condT rfl ?_ | refine aw_condF rfl ?_ | refine aw_block ?_ | refine aw_exit ?_ | refine aw_ret ?_ | refine aw_skip ?_ | rw [List.length_map] | rw [mn_norm] | rw [mx_norm])
        exact ⟨_, rfl, fits_mk ⟨rfl, rfl, rfl, trivial⟩ [] rfl ⟨trivial, trivial, trivial, trivial⟩ trivial⟩
    · rw [q_3, cond_false] at hb1
      obtain rfl := Option.some.inj hb1
      have hx1 : gSameRows_K1 (.inl i_2) = some _ := hk1
      unfold gSameRows_K1 at hx1
      dsimp only at hx1
      obtain rfl := Option.some.inj hx1
      exact go_
def gExactly (a_a : Bag) (a_b : Bag) : Option (Bool) := (gSameKinds a_a.kinds a_b.kinds).bind fun r_1 => bif r_1 then
  (gSameRows a_a.rows a_b.rows).bind fun r_3 => some r_3
 else
  some false
theorem gExactly_ok {a_a : Bag} {a_b : Bag} {r : Bool} (H : gExactly a_a a_b = some r) : Pure Tryz.prog 21 [.agg (cBag a_a), .agg (cBag a_b)] (.val (.one (.bool r))) := by
  unfold gExactly at H
  refine pure_of_aw tab_ok Tryz.func21 rfl rfl Tryz.ntmps21 (by simp) ?_
  simp only [argT, PV.av, List.map_cons, List.map_nil]
  obtain ⟨r_1, c1, H⟩ := bind_some H
  replace c1 := gSameKinds_ok c1
  try simp only [List.map_append, List.map_cons, List.map_nil, List.nil_append, tE_eq, tP_eq] at c1
  rcases Bool.eq_false_or_eq_true r_1 with q_2 | q_2
  · rw [q_2, cond_true] at H
    obtain ⟨r_3, c2, H⟩ := bind_some H
    replace c2 := gSameRows_ok c2
    try simp only [List.map_append, List.map_cons, List.map_nil, List.nil_append, tE_eq, tP_eq] at c2
    obtain rfl := Option.some.inj H
    exact go_
  · rw [q_2, cond_false] at H
    obtain rfl := Option.some.inj H
    exact go_
def gFit_B1 (a_l : (List Ver)) (a_kinds : (List Int)) : (Int) → Option (Step (Int) (Bool)) := fun s => match s with
  | i_1 => bif (decide (i_1 < ((a_l.length : Nat) : Int))) then
    (getI a_l i_1).bind fun x_3 => (gFits8 x_3.row a_kinds).bind fun r_4 => bif (!r_4) then
      some (.ret false)
    else
      some (.next (IntKind.i64.wrap (i_1 + (1 : Int))))
  else
    some (.exit i_1)
def gFit_K1 (a_kinds : (List Int)) : Sum (Int) (Bool) → Option ((Bool))
  | .inl i_1 => (gKinds a_kinds).bind fun r_6 => some r_6
  | .inr q => some q
def gFit (a_l : (List Ver)) (a_kinds : (List Int)) : Option (Bool) := (loopM (gFit_B1 a_l a_kinds) fuel (0 : Int)).bind (gFit_K1 a_kinds)
theorem gFit_ok {a_l : (List Ver)} {a_kinds : (List Int)} {r : Bool} (H : gFit a_l a_kinds = some r) : Pure Tryz.prog 20 [.one (.lst (a_l.map cVer)), .one (.lst (a_kinds.map (fun x => [AC.int .i64 x])))] (.val (.one (.bool r))) := by
  unfold gFit at H
  refine pure_of_aw tab_ok Tryz.func20 rfl rfl Tryz.ntmps20 (by simp) ?_
  simp only [argT, PV.av, List.map_cons, List.map_nil]
  repeat' (first | refine p_ rfl rfl rfl rfl rfl ?_ | refine st_nil ?_ | refine x_ rfl rfl rfl rfl rfl rfl rfl rfl ?_ | refine l_ rfl rfl rfl rfl ?_ | refine s_ rfl rfl rfl ?_ | refine t_ rfl rfl rfl rfl ?_ | refine k_ rfl rfl rfl ?_ | refine k0_ rfl rfl ?_ | refine c_ rfl rfl rfl rfl ?_ | refine pick_t rfl rfl rfl rfl rfl rfl rfl ?_ | refine pick_f rfl rfl rfl rfl rfl rfl rfl ?_ | refine aw_seq ?_ | refine aw_region tab_ok _ rfl ?_ | refine aw_drawn2 tabS_ok _ rfl mixed (by decide +kernel) ?_ | refine aw_condT rfl ?_ | refine aw_condF rfl ?_ | refine aw_block ?_ | refine aw_exit ?_ | refine aw_ret ?_ | refine aw_skip ?_ | rw [List.length_map] | rw [mn_norm] | rw [mx_norm])
  refine aw_loopM (fun s : Int => match s with | i_1 => [(0, .one (.c (.lst (a_l.map cVer)))), (1, .one (.c (.lst (a_kinds.map (fun x => [AC.int .i64 x]))))), (5, .one (.c (.int .i64 i_1)))]) (fun s => match s with | i_1 => []) H (fun _ => Nat.zero_le _)
    (fits_mk ⟨rfl, rfl, rfl, trivial⟩ [] rfl ⟨trivial, trivial, trivial, trivial⟩ trivial) ?_
  rintro i_1 st1 hb1 hk1
  unfold gFit_B1 at hb1
  dsimp only at hb1 ⊢
  rcases Bool.eq_false_or_eq_true (decide (i_1 < ((a_l.length : Nat) : Int))) with q_2 | q_2
  · rw [q_2, cond_true] at hb1
    obtain ⟨x_3, i1, hb1⟩ := bind_some hb1
    obtain ⟨i1z, i1⟩ := getI_some i1
    have i1x := idxI (f := cVer) i1
    obtain ⟨r_4, c2, hb1⟩ := bind_some hb1
    replace c2 := gFits8_ok c2
    try simp only [List.map_append, List.map_cons, List.map_nil, List.nil_append, tE_eq, tP_eq] at c2
    rcases Bool.eq_false_or_eq_true (!r_4) with q_5 | q_5
    · rw [q_5, cond_true] at hb1
      obtain rfl := Option.some.inj hb1
      have hx1 : gFit_K1 a_kinds (.inr false) = some _ := hk1
      unfold gFit_K1 at hx1
      dsimp only at hx1
      obtain rfl := Option.some.inj hx1
      exact go_
    · rw [q_5, cond_false] at hb1
      obtain rfl := Option.some.inj hb1
      repeat' (first | refine p_ rfl rfl rfl rfl rfl ?_ | refine st_nil ?_ | refine x_ rfl rfl rfl rfl rfl rfl rfl rfl ?_ | refine l_ rfl rfl rfl rfl ?_ | refine s_ rfl rfl rfl ?_ | refine t_ rfl rfl rfl rfl ?_ | refine k_ rfl rfl rfl ?_ | refine k0_ rfl rfl ?_ | refine c_ rfl rfl rfl rfl ?_ | refine pick_t rfl rfl rfl rfl rfl rfl rfl ?_ | refine pick_f rfl rfl rfl rfl rfl rfl rfl ?_ | refine aw_seq ?_ | refine aw_region tab_ok _ rfl ?_ | refine aw_drawn2 tabS_ok _ rfl mixed (by decide +kernel) ?_ | refine aw_condT rfl ?_ | refine aw_condF rfl ?_ | refine aw_block ?_ | refine aw_exit ?_ | refine aw_ret ?_ | refine aw_skip ?_ | rw [List.length_map] | rw [mn_norm] | rw [mx_norm])
      exact ⟨_, rfl, fits_mk ⟨rfl, rfl, rfl, trivial⟩ [] rfl ⟨trivial, trivial, trivial, trivial⟩ trivial⟩
  · rw [q_2, cond_false] at hb1
    obtain rfl := Option.some.inj hb1
    have hx1 : gFit_K1 a_kinds (.inl i_1) = some _ := hk1
    unfold gFit_K1 at hx1
    dsimp only at hx1
    obtain ⟨r_6, c3, hx1⟩ := bind_some hx1
    replace c3 := gKinds_ok c3
    try simp only [List.map_append, List.map_cons, List.map_nil, List.nil_append, tE_eq, tP_eq] at c3
    obtain rfl := Option.some.inj hx1
    exact go_
end Go.Proofs.YtnbnpnmkgemdeaaGreatDoor
namespace Go.Proofs.YtnbnpnmkgemdeaaGreatDoor
open Go.RowKit Go.MapKept
set_option maxRecDepth 100000
set_option maxHeartbeats 8000000
set_option linter.unusedVariables false
set_option linter.unusedSimpArgs false
def gExtR_B1 (a_v : Ver) : ((List Val) × Int) → Option (Step ((List Val) × Int) ((List Val))) := fun s => match s with
  | (out_1, i_2) => bif (decide (i_2 < ((5 : Nat) : Int))) then
    (getI [a_v.valid.lo, a_v.valid.hi, a_v.system.lo, a_v.system.hi, a_v.by_] i_2).bind fun x_4 => (gIntR x_4).bind fun r_5 => bif (decide (out_1.length + 1 ≤ 4398046511104)) then (some (.next ((out_1 ++ [r_5]), (IntKind.i64.wrap (i_2 + (1 : Int)))))) else none
  else
    some (.exit (out_1, i_2))
def gExtR_K1 : Sum ((List Val) × Int) ((List Val)) → Option (((List Val)))
  | .inl (out_1, i_2) => some out_1
  | .inr q => some q
def gExtR (a_v : Ver) : Option ((List Val)) := bif (decide (a_v.row.length ≤ 4398046511104)) then ((loopM (gExtR_B1 a_v) fuel (a_v.row, (0 : Int))).bind (gExtR_K1)) else none
theorem gExtR_ok {a_v : Ver} {r : (List Val)} (H : gExtR a_v = some r) : Pure Tryz.prog 52 [.agg (cVer a_v)] (.val (.one (.lst (r.map cV)))) := by
  unfold gExtR at H
  refine pure_of_aw tab_ok Tryz.func52 rfl rfl Tryz.ntmps52 (by simp) ?_
  simp only [argT, PV.av, List.map_cons, List.map_nil]
  obtain ⟨g1, H⟩ := grd_some H
  replace g1 := of_decide_eq_true g1
  repeat' (first | refine p_ rfl rfl rfl rfl rfl ?_ | refine st_nil ?_ | refine x_ rfl rfl rfl rfl rfl rfl rfl rfl ?_ | refine l_ rfl rfl rfl rfl ?_ | refine s_ rfl rfl rfl ?_ | refine t5_ rfl rfl rfl rfl ?_ | refine k_ rfl rfl rfl ?_ | refine k0_ rfl rfl ?_ | refine c_ rfl rfl rfl rfl ?_ | refine pick_t rfl rfl rfl rfl rfl rfl rfl ?_ | refine pick_f rfl rfl rfl rfl rfl rfl rfl ?_ | refine aw_seq ?_ | refine aw_region tab_ok _ rfl ?_ | refine aw_drawn2 tabS_ok _ rfl mixed (by decide +kernel) ?_ | refine aw_condT rfl ?_ | refine aw_condF rfl ?_ | refine aw_block ?_ | refine aw_exit ?_ | refine aw_ret ?_ | refine aw_skip ?_ | rw [List.length_map] | rw [mn_norm] | rw [mx_norm] | refine b_ rfl rfl rfl rfl rfl rfl rfl ?_)
  refine aw_loopM (fun s : (List Val) × Int => match s with | (out_1, i_2) => [(3, .one (.c (.lst ([a_v.valid.lo, a_v.valid.hi, a_v.system.lo, a_v.system.hi, a_v.by_].map (fun x => [AC.int .i64 x]))))), (4, .one (.own (out_1.map cV) 1)), (5, .one (.c (.int .i64 i_2)))]) (fun s => match s with | (out_1, i_2) => [.box [.c (.int .i64 a_v.id), .c (.int .i64 a_v.schema), .c (.lst (a_v.row.map cV)), .c (.int .i64 a_v.valid.lo), .c (.int .i64 a_v.valid.hi), .c (.int .i64 a_v.system.lo), .c (.int .i64 a_v.system.hi), .c (.int .i64 a_v.by_), .c (.int .i64 a_v.til)], .spare out_1.length 3]) H (fun _ => Nat.zero_le _)
    (fits_mk ⟨rfl, rfl, rfl, trivial⟩ [] rfl ⟨trivial, by show 1 < 2; omega, trivial, trivial⟩ ⟨ob_below (by rfl), trivial, trivial⟩) ?_
  rintro ⟨out_1, i_2⟩ st1 hb1 hk1
  unfold gExtR_B1 at hb1
  dsimp only at hb1 ⊢
  rcases Bool.eq_false_or_eq_true (decide (i_2 < ((5 : Nat) : Int))) with q_3 | q_3
  · rw [q_3, cond_true] at hb1
    obtain ⟨x_4, i2, hb1⟩ := bind_some hb1
    obtain ⟨i2z, i2⟩ := getI_some i2
    have i2x := idxI (f := (fun x => [AC.int .i64 x])) i2
    obtain ⟨r_5, c3, hb1⟩ := bind_some hb1
    replace c3 := gIntR_ok c3
    try simp only [List.map_append, List.map_cons, List.map_nil, List.nil_append, tE_eq, tP_eq] at c3
    obtain ⟨g4, hb1⟩ := grd_some hb1
    replace g4 := of_decide_eq_true g4
    obtain rfl := Option.some.inj hb1
    repeat' (first | refine p_ rfl rfl rfl rfl rfl ?_ | refine st_nil ?_ | refine x_ rfl rfl rfl rfl rfl rfl rfl rfl ?_ | refine l_ rfl rfl rfl rfl ?_ | refine s_ rfl rfl rfl ?_ | refine t5_ rfl rfl rfl rfl ?_ | refine k_ rfl rfl rfl ?_ | refine k0_ rfl rfl ?_ | refine c_ rfl rfl rfl rfl ?_ | refine pick_t rfl rfl rfl rfl rfl rfl rfl ?_ | refine pick_f rfl rfl rfl rfl rfl rfl rfl ?_ | refine aw_seq ?_ | refine aw_region tab_ok _ rfl ?_ | refine aw_drawn2 tabS_ok _ rfl mixed (by decide +kernel) ?_ | refine aw_condT rfl ?_ | refine aw_condF rfl ?_ | refine aw_block ?_ | refine aw_exit ?_ | refine aw_ret ?_ | refine aw_skip ?_ | rw [List.length_map] | rw [mn_norm] | rw [mx_norm] | refine b_ rfl rfl rfl rfl rfl rfl rfl ?_)
    exact ⟨_, rfl, fits_mk ⟨rfl, (by simp only [List.map_append, List.map_cons, List.map_nil, List.nil_append] <;> rfl), rfl, trivial⟩ [] (by simp only [List.length_append, List.length_cons, List.length_nil, Nat.zero_add, List.map_append, List.map_cons, List.map_nil] <;> rfl) ⟨trivial, by show 1 < 2; omega, trivial, trivial⟩ ⟨ob_below (by rfl), trivial, trivial⟩⟩
  · rw [q_3, cond_false] at hb1
    obtain rfl := Option.some.inj hb1
    have hx1 : gExtR_K1 (.inl (out_1, i_2)) = some _ := hk1
    unfold gExtR_K1 at hx1
    dsimp only at hx1
    obtain rfl := Option.some.inj hx1
    repeat' (first | refine p_ rfl rfl rfl rfl rfl ?_ | refine st_nil ?_ | refine x_ rfl rfl rfl rfl rfl rfl rfl rfl ?_ | refine l_ rfl rfl rfl rfl ?_ | refine s_ rfl rfl rfl ?_ | refine t5_ rfl rfl rfl rfl ?_ | refine k_ rfl rfl rfl ?_ | refine k0_ rfl rfl ?_ | refine c_ rfl rfl rfl rfl ?_ | refine pick_t rfl rfl rfl rfl rfl rfl rfl ?_ | refine pick_f rfl rfl rfl rfl rfl rfl rfl ?_ | refine aw_seq ?_ | refine aw_region tab_ok _ rfl ?_ | refine aw_drawn2 tabS_ok _ rfl mixed (by decide +kernel) ?_ | refine aw_condT rfl ?_ | refine aw_condF rfl ?_ | refine aw_block ?_ | refine aw_exit ?_ | refine aw_ret ?_ | refine aw_skip ?_ | rw [List.length_map] | rw [mn_norm] | rw [mx_norm] | refine b_ rfl rfl rfl rfl rfl rfl rfl ?_)
    refine end_ret (res_of rfl ?_ ?_)
    · repeat' (first | exact trivial | rfl | exact Nat.le_of_ble_eq_true rfl | omega | apply And.intro)
    · first | rfl | (simp only [List.map_append, List.map_cons, List.map_nil, List.nil_append] <;> rfl)
def gRowsR_B2 (a_l : (List Ver)) : ((List (List Val)) × Int) → Option (Step ((List (List Val)) × Int) (Bag)) := fun s => match s with
  | (c_4, i_5) => bif (decide (i_5 < ((a_l.length : Nat) : Int))) then
    (getI a_l i_5).bind fun x_7 => (gExtR x_7).bind fun r_8 => bif (decide (c_4.length + 1 ≤ 5864062014805)) then (some (.next ((c_4 ++ [r_8]), (IntKind.i64.wrap (i_5 + (1 : Int)))))) else none
  else
    some (.exit (c_4, i_5))
def gRowsR_K2 (c_1 : (List Int)) : Sum ((List (List Val)) × Int) (Bag) → Option ((Bag))
  | .inl (c_4, i_5) => (gSortR c_4).bind fun r_9 => some (⟨c_1, r_9⟩ : Bag)
  | .inr q => some q
def gRowsR_B1 : ((List Int) × Int) → Option (Step ((List Int) × Int) (Bag)) := fun s => match s with
  | (c_1, i_2) => bif (decide (i_2 < (5 : Int))) then
    bif (decide (c_1.length + 1 ≤ 17592186044416)) then (some (.next ((c_1 ++ [(1 : Int)]), (IntKind.i64.wrap (i_2 + (1 : Int)))))) else none
  else
    some (.exit (c_1, i_2))
def gRowsR_K1 (a_l : (List Ver)) : Sum ((List Int) × Int) (Bag) → Option ((Bag))
  | .inl (c_1, i_2) => (loopM (gRowsR_B2 a_l) fuel ([], (0 : Int))).bind (gRowsR_K2 c_1)
  | .inr q => some q
def gRowsR (a_kinds : (List Int)) (a_l : (List Ver)) : Option (Bag) := bif (decide (a_kinds.length ≤ 17592186044416)) then ((loopM (gRowsR_B1) fuel (a_kinds, (0 : Int))).bind (gRowsR_K1 a_l)) else none
theorem gRowsR_ok {a_kinds : (List Int)} {a_l : (List Ver)} {r : Bag} (H : gRowsR a_kinds a_l = some r) : Pure Tryz.prog 23 [.one (.lst (a_kinds.map (fun x => [AC.int .i64 x]))), .one (.lst (a_l.map cVer))] (.val (.agg (cBag r))) := by
  unfold gRowsR at H
  refine pure_of_aw tab_ok Tryz.func23 rfl rfl Tryz.ntmps23 (by simp) ?_
  simp only [argT, PV.av, List.map_cons, List.map_nil]
  obtain ⟨g1, H⟩ := grd_some H
  replace g1 := of_decide_eq_true g1
  repeat' (first | refine p_ rfl rfl rfl rfl rfl ?_ | refine st_nil ?_ | refine x_ rfl rfl rfl rfl rfl rfl rfl rfl ?_ | refine l_ rfl rfl rfl rfl ?_ | refine s_ rfl rfl rfl ?_ | refine t_ rfl rfl rfl rfl ?_ | refine k_ rfl rfl rfl ?_ | refine k0_ rfl rfl ?_ | refine c_ rfl rfl rfl rfl ?_ | refine pick_t rfl rfl rfl rfl rfl rfl rfl ?_ | refine pick_f rfl rfl rfl rfl rfl rfl rfl ?_ | refine aw_seq ?_ | refine aw_region tab_ok _ rfl ?_ | refine aw_drawn2 tabS_ok _ rfl mixed (by decide +kernel) ?_ | refine aw_condT rfl ?_ | refine aw_condF rfl ?_ | refine aw_block ?_ | refine aw_exit ?_ | refine aw_ret ?_ | refine aw_skip ?_ | rw [List.length_map] | rw [mn_norm] | rw [mx_norm])
  refine aw_loopM (fun s : (List Int) × Int => match s with | (c_1, i_2) => [(1, .one (.c (.lst (a_l.map cVer)))), (4, .one (.ptr 0 0)), (5, .one (.ptr 1 0)), (6, .one (.c (.int .i64 i_2)))]) (fun s => match s with | (c_1, i_2) => [.box [.emp, .emp], .box [.own (c_1.map (fun x => [AC.int .i64 x])) 2, .emp], .spare c_1.length 1]) H (fun _ => Nat.zero_le _)
    (fits_mk ⟨rfl, rfl, rfl, rfl, trivial⟩ [] rfl ⟨trivial, by show 0 < 3; omega, by show 1 < 3; omega, trivial, trivial⟩ ⟨ob_below (by rfl), ob_below (by rfl), trivial, trivial⟩) ?_
  rintro ⟨c_1, i_2⟩ st1 hb1 hk1
  unfold gRowsR_B1 at hb1
  dsimp only at hb1 ⊢
  rcases Bool.eq_false_or_eq_true (decide (i_2 < (5 : Int))) with q_3 | q_3
  · rw [q_3, cond_true] at hb1
    obtain ⟨g2, hb1⟩ := grd_some hb1
    replace g2 := of_decide_eq_true g2
    obtain rfl := Option.some.inj hb1
    repeat' (first | refine p_ rfl rfl rfl rfl rfl ?_ | refine st_nil ?_ | refine x_ rfl rfl rfl rfl rfl rfl rfl rfl ?_ | refine l_ rfl rfl rfl rfl ?_ | refine s_ rfl rfl rfl ?_ | refine t_ rfl rfl rfl rfl ?_ | refine k_ rfl rfl rfl ?_ | refine k0_ rfl rfl ?_ | refine c_ rfl rfl rfl rfl ?_ | refine pick_t rfl rfl rfl rfl rfl rfl rfl ?_ | refine pick_f rfl rfl rfl rfl rfl rfl rfl ?_ | refine aw_seq ?_ | refine aw_region tab_ok _ rfl ?_ | refine aw_drawn2 tabS_ok _ rfl mixed (by decide +kernel) ?_ | refine aw_condT rfl ?_ | refine aw_condF rfl ?_ | refine aw_block ?_ | refine aw_exit ?_ | refine aw_ret ?_ | refine aw_skip ?_ | rw [List.length_map] | rw [mn_norm] | rw [mx_norm])
    exact ⟨_, rfl, fits_mk ⟨rfl, rfl, rfl, rfl, trivial⟩ [] (by simp only [List.length_append, List.length_cons, List.length_nil, Nat.zero_add, List.map_append, List.map_cons, List.map_nil] <;> rfl) ⟨trivial, by show 0 < 3; omega, by show 1 < 3; omega, trivial, trivial⟩ ⟨ob_below (by rfl), ob_below (by rfl), trivial, trivial⟩⟩
  · rw [q_3, cond_false] at hb1
    obtain rfl := Option.some.inj hb1
    have hx1 : gRowsR_K1 a_l (.inl (c_1, i_2)) = some _ := hk1
    unfold gRowsR_K1 at hx1
    dsimp only at hx1
    repeat' (first | refine p_ rfl rfl rfl rfl rfl ?_ | refine st_nil ?_ | refine x_ rfl rfl rfl rfl rfl rfl rfl rfl ?_ | refine l_ rfl rfl rfl rfl ?_ | refine s_ rfl rfl rfl ?_ | refine t_ rfl rfl rfl rfl ?_ | refine k_ rfl rfl rfl ?_ | refine k0_ rfl rfl ?_ | refine c_ rfl rfl rfl rfl ?_ | refine pick_t rfl rfl rfl rfl rfl rfl rfl ?_ | refine pick_f rfl rfl rfl rfl rfl rfl rfl ?_ | refine aw_seq ?_ | refine aw_region tab_ok _ rfl ?_ | refine aw_drawn2 tabS_ok _ rfl mixed (by decide +kernel) ?_ | refine aw_condT rfl ?_ | refine aw_condF rfl ?_ | refine aw_block ?_ | refine aw_exit ?_ | refine aw_ret ?_ | refine aw_skip ?_ | rw [List.length_map] | rw [mn_norm] | rw [mx_norm])
    refine aw_tokBox 1 1 1 rfl rfl ?_
    refine aw_loopM (fun s : (List (List Val)) × Int => match s with | (c_4, i_5) => [(1, .one (.c (.lst (a_l.map cVer)))), (4, .one (.ptr 0 0)), (5, .one (.ptr 1 0)), (7, .one (.c (.int .i64 i_5)))]) (fun s => match s with | (c_4, i_5) => [.box [.emp, .emp], .box [.own (c_1.map (fun x => [AC.int .i64 x])) 2, .own (c_4.map (fun x => [AC.lst (x.map cV)])) 3], .spare c_1.length 1, .spare c_4.length 1]) hx1 (fun _ => Nat.zero_le _)
      (fits_mk ⟨rfl, rfl, rfl, rfl, trivial⟩ [] rfl ⟨trivial, by show 0 < 4; omega, by show 1 < 4; omega, trivial, trivial⟩ ⟨ob_below (by rfl), ob_below (by rfl), trivial, trivial, trivial⟩) ?_
    rintro ⟨c_4, i_5⟩ st2 hb2 hk2
    unfold gRowsR_B2 at hb2
    dsimp only at hb2 ⊢
    rcases Bool.eq_false_or_eq_true (decide (i_5 < ((a_l.length : Nat) : Int))) with q_6 | q_6
    · rw [q_6, cond_true] at hb2
      obtain ⟨x_7, i3, hb2⟩ := bind_some hb2
      obtain ⟨i3z, i3⟩ := getI_some i3
      have i3x := idxI (f := cVer) i3
      obtain ⟨r_8, c4, hb2⟩ := bind_some hb2
      replace c4 := gExtR_ok c4
      try simp only [List.map_append, List.map_cons, List.map_nil, List.nil_append, tE_eq, tP_eq] at c4
      obtain ⟨g5, hb2⟩ := grd_some hb2
      replace g5 := of_decide_eq_true g5
      obtain rfl := Option.some.inj hb2
      repeat' (first | refine p_ rfl rfl rfl rfl rfl ?_ | refine st_nil ?_ | refine x_ rfl rfl rfl rfl rfl rfl rfl rfl ?_ | refine l_ rfl rfl rfl rfl ?_ | refine s_ rfl rfl rfl ?_ | refine t_ rfl rfl rfl rfl ?_ | refine k_ rfl rfl rfl ?_ | refine k0_ rfl rfl ?_ | refine c_ rfl rfl rfl rfl ?_ | refine pick_t rfl rfl rfl rfl rfl rfl rfl ?_ | refine pick_f rfl rfl rfl rfl rfl rfl rfl ?_ | refine aw_seq ?_ | refine aw_region tab_ok _ rfl ?_ | refine aw_drawn2 tabS_ok _ rfl mixed (by decide +kernel) ?_ | refine aw_condT rfl ?_ | refine aw_condF rfl ?_ | refine aw_block ?_ | refine aw_exit ?_ | refine aw_ret ?_ | refine aw_skip ?_ | rw [List.length_map] | rw [mn_norm] | rw [mx_norm])
      exact ⟨_, rfl, fits_mk ⟨rfl, rfl, rfl, rfl, trivial⟩ [] (by simp only [List.length_append, List.length_cons, List.length_nil, Nat.zero_add, List.map_append, List.map_cons, List.map_nil] <;> rfl) ⟨trivial, by show 0 < 4; omega, by show 1 < 4; omega, trivial, trivial⟩ ⟨ob_below (by rfl), ob_below (by rfl), trivial, trivial, trivial⟩⟩
    · rw [q_6, cond_false] at hb2
      obtain rfl := Option.some.inj hb2
      have hx2 : gRowsR_K2 c_1 (.inl (c_4, i_5)) = some _ := hk2
      unfold gRowsR_K2 at hx2
      dsimp only at hx2
      obtain ⟨r_9, c6, hx2⟩ := bind_some hx2
      replace c6 := gSortR_ok c6
      try simp only [List.map_append, List.map_cons, List.map_nil, List.nil_append, tE_eq, tP_eq] at c6
      obtain rfl := Option.some.inj hx2
      repeat' (first | refine p_ rfl rfl rfl rfl rfl ?_ | refine st_nil ?_ | refine x_ rfl rfl rfl rfl rfl rfl rfl rfl ?_ | refine l_ rfl rfl rfl rfl ?_ | refine s_ rfl rfl rfl ?_ | refine t_ rfl rfl rfl rfl ?_ | refine k_ rfl rfl rfl ?_ | refine k0_ rfl rfl ?_ | refine c_ rfl rfl rfl rfl ?_ | refine pick_t rfl rfl rfl rfl rfl rfl rfl ?_ | refine pick_f rfl rfl rfl rfl rfl rfl rfl ?_ | refine aw_seq ?_ | refine aw_region tab_ok _ rfl ?_ | refine aw_drawn2 tabS_ok _ rfl mixed (by decide +kernel) ?_ | refine aw_condT rfl ?_ | refine aw_condF rfl ?_ | refine aw_block ?_ | refine aw_exit ?_ | refine aw_ret ?_ | refine aw_skip ?_ | rw [List.length_map] | rw [mn_norm] | rw [mx_norm])
      refine end_ret (res_of rfl ?_ ?_)
      · repeat' (first | exact trivial | rfl | exact Nat.le_of_ble_eq_true rfl | omega | apply And.intro)
      · first | rfl | (simp only [List.map_append, List.map_cons, List.map_nil, List.nil_append] <;> rfl)
end Go.Proofs.YtnbnpnmkgemdeaaGreatDoor
