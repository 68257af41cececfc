/- Parts of the proof, joined. No condition. -/
import Derived.Test.YtnbnpnmkgemdeaaGreatDoorKBM
import Derived.Test.YtnbnpnmkgemdeaaGreatDoorKAP
import Derived.Test.YtnbnpnmkgemdeaaGreatDoorKAK
set_option linter.unusedSimpArgs false
set_option linter.unusedVariables false
namespace Go.Proofs.YtnbnpnmkgemdeaaGreatDoor
open Go.RowKit Go.MapKept
set_option maxRecDepth 100000
set_option maxHeartbeats 8000000
set_option linter.unusedVariables false
set_option linter.unusedSimpArgs false
def gLawRanges_B4 (a_l : (List Ver)) (a_to : Int) (i_14 : Int) : (Bool × Int) → Option (Step (Bool × Int) (Bool)) := fun s => match s with
  | (is_16, t_17) => bif (decide (t_17 < a_to)) then
    bif is_16 then
      some (.next (true, (IntKind.i64.wrap (t_17 + (1 : Int)))))
    else
      (subI a_l i_14 (IntKind.i64.wrap (i_14 + (1 : Int)))).bind fun s_20 => (gSel s_20 (⟨(1 : Int), t_17, (0 : Int)⟩ : Cla)).bind fun r_21 => some (.next ((decide (((r_21.length : Nat) : Int) = (1 : Int))), (IntKind.i64.wrap (t_17 + (1 : Int)))))
  else
    some (.exit (is_16, t_17))
def gLawRanges_K4 (a_l : (List Ver)) (r_12 : (List Ver)) (n_13 : Int) (i_14 : Int) : Sum (Bool × Int) (Bool) → Option (Step (Int × Int) (Bool))
  | .inl (is_16, t_17) => bif is_16 then
    bif (decide (((r_12.length : Nat) : Int) ≤ n_13)) then
      some (.ret false)
    else
      (getI r_12 n_13).bind fun x_24 => (getI a_l i_14).bind fun x_25 => (gSameV x_24 x_25).bind fun r_26 => bif (!r_26) then
        some (.ret false)
      else
        some (.next ((IntKind.i64.wrap (n_13 + (1 : Int))), (IntKind.i64.wrap (i_14 + (1 : Int)))))
  else
    some (.next (n_13, (IntKind.i64.wrap (i_14 + (1 : Int)))))
  | .inr q => some (.ret q)
def gLawRanges_B3 (a_l : (List Ver)) (a_from : Int) (a_to : Int) (r_12 : (List Ver)) : (Int × Int) → Option (Step (Int × Int) (Bool)) := fun s => match s with
  | (n_13, i_14) => bif (decide (i_14 < ((a_l.length : Nat) : Int))) then
    (loopM (gLawRanges_B4 a_l a_to i_14) fuel (false, a_from)).bind (gLawRanges_K4 a_l r_12 n_13 i_14)
  else
    some (.exit (n_13, i_14))
def gLawRanges_K3 (a_l : (List Ver)) (a_from : Int) (a_to : Int) (r_12 : (List Ver)) : Sum (Int × Int) (Bool) → Option ((Bool))
  | .inl (n_13, i_14) => bif (decide (n_13 ≠ ((r_12.length : Nat) : Int))) then
    some false
  else
    (gSel a_l (⟨(3 : Int), a_from, (IntKind.i64.wrap (a_to - (1 : Int)))⟩ : Cla)).bind fun r_29 => (gSameVs r_12 r_29).bind fun r_30 => bif (!r_30) then
      some false
    else
      (gSel a_l (⟨(0 : Int), (0 : Int), (0 : Int)⟩ : Cla)).bind fun r_32 => (gSel a_l (⟨(1 : Int), (1099511627775 : Int), (0 : Int)⟩ : Cla)).bind fun r_33 => (gSameVs r_32 r_33).bind fun r_34 => bif r_34 then
        some (true)
      else
        some false
  | .inr q => some q
def gLawRanges (a_l : (List Ver)) (a_from : Int) (a_to : Int) : Option (Bool) := (gFew a_l).bind fun r_1 => bif (!r_1) then
  some (true)
 else
  bif (decide (a_from < (0 : Int))) then
    some (true)
  else
    bif (decide ((1099511627775 : Int) < a_to)) then
      some (true)
    else
      bif (decide (a_to ≤ a_from)) then
        some (true)
      else
        bif (decide ((20 : Int) < (IntKind.i64.wrap (a_to - a_from)))) then
          some (true)
        else
          (gSel a_l (⟨(2 : Int), a_from, a_to⟩ : Cla)).bind fun r_12 => (loopM (gLawRanges_B3 a_l a_from a_to r_12) fuel ((0 : Int), (0 : Int))).bind (gLawRanges_K3 a_l a_from a_to r_12)
theorem gLawRanges_ok {a_l : (List Ver)} {a_from : Int} {a_to : Int} {r : Bool} (H : gLawRanges a_l a_from a_to = some r) : Pure Tryz.prog 6 [.one (.lst (a_l.map cVer)), .one (.int .i64 a_from), .one (.int .i64 a_to)] (.val (.one (.bool r))) := by
  unfold gLawRanges at H
  refine pure_of_aw tab_ok Tryz.func6 rfl rfl Tryz.ntmps6 (by simp) ?_
  simp only [argT, PV.av, List.map_cons, List.map_nil]
  obtain ⟨r_1, c1, H⟩ := bind_some H
  replace c1 := gFew_ok c1
  try simp only [List.map_append, List.map_cons, List.map_nil, List.nil_append, tE_eq, tP_eq] at c1
  rcases Bool.eq_false_or_eq_true (!r_1) with q_2 | q_2
  · rw [q_2, cond_true] at H
    have hc_3 := awake_pure
    try simp only [List.map_append, List.map_cons, List.map_nil, List.nil_append, tE_eq, tP_eq] at hc_3
    obtain rfl := Option.some.inj H
    exact go_
  · rw [q_2, cond_false] at H
    rcases Bool.eq_false_or_eq_true (decide (a_from < (0 : Int))) with q_4 | q_4
    · rw [q_4, cond_true] at H
      have hc_5 := awake_pure
      try simp only [List.map_append, List.map_cons, List.map_nil, List.nil_append, tE_eq, tP_eq] at hc_5
      obtain rfl := Option.some.inj H
      exact go_
    · rw [q_4, cond_false] at H
      rcases Bool.eq_false_or_eq_true (decide ((1099511627775 : Int) < a_to)) with q_6 | q_6
      · rw [q_6, cond_true] at H
        have hc_7 := awake_pure
        try simp only [List.map_append, List.map_cons, List.map_nil, List.nil_append, tE_eq, tP_eq] at hc_7
        obtain rfl := Option.some.inj H
        exact go_
      · rw [q_6, cond_false] at H
        rcases Bool.eq_false_or_eq_true (decide (a_to ≤ a_from)) with q_8 | q_8
        · rw [q_8, cond_true] at H
          have hc_9 := awake_pure
          try simp only [List.map_append, List.map_cons, List.map_nil, List.nil_append, tE_eq, tP_eq] at hc_9
          obtain rfl := Option.some.inj H
          exact go_
        · rw [q_8, cond_false] at H
          rcases Bool.eq_false_or_eq_true (decide ((20 : Int) < (IntKind.i64.wrap (a_to - a_from)))) with q_10 | q_10
          · rw [q_10, cond_true] at H
            have hc_11 := awake_pure
            try simp only [List.map_append, List.map_cons, List.map_nil, List.nil_append, tE_eq, tP_eq] at hc_11
            obtain rfl := Option.some.inj H
            exact go_
          · rw [q_10, cond_false] at H
            obtain ⟨r_12, c2, H⟩ := bind_some H
            replace c2 := gSel_ok c2
            try simp only [List.map_append, List.map_cons, List.map_nil, List.nil_append, tE_eq, tP_eq] at c2
            repeat' (first | refine p_ rfl rfl rfl rfl rfl ?_ | refine st_nil ?_ | refine x_ rfl rfl rfl rfl rfl rfl rfl rfl ?_ | refine l_ rfl rfl rfl rfl ?_ | refine s_ rfl rfl rfl ?_ | refine t_ rfl rfl rfl rfl ?_ | refine k_ rfl rfl rfl ?_ | refine k0_ rfl rfl ?_ | refine c_ rfl rfl rfl rfl ?_ | refine pick_t rfl rfl rfl rfl rfl rfl rfl ?_ | refine pick_f rfl rfl rfl rfl rfl rfl rfl ?_ | refine aw_seq ?_ | refine aw_region tab_ok _ rfl ?_ | refine aw_drawn2 tabS_ok _ rfl mixed (by decide +kernel) ?_ | refine aw_condT rfl ?_ | refine aw_condF rfl ?_ | refine aw_block ?_ | refine aw_exit ?_ | refine aw_ret ?_ | refine aw_skip ?_ | rw [List.length_map] | rw [mn_norm] | rw [mx_norm])
            refine aw_loopM (fun s : Int × Int => match s with | (n_13, i_14) => [(0, .one (.c (.lst (a_l.map cVer)))), (1, .one (.c (.int .i64 a_from))), (2, .one (.c (.int .i64 a_to))), (7, .one (.c (.lst (r_12.map cVer)))), (8, .one (.c (.int .i64 n_13))), (9, .one (.c (.int .i64 i_14)))]) (fun s => match s with | (n_13, i_14) => []) H (fun _ => Nat.zero_le _)
              (fits_mk ⟨rfl, rfl, rfl, rfl, rfl, rfl, trivial⟩ [] rfl ⟨trivial, trivial, trivial, trivial, trivial, trivial, trivial⟩ trivial) ?_
            rintro ⟨n_13, i_14⟩ st3 hb3 hk3
            unfold gLawRanges_B3 at hb3
            dsimp only at hb3 ⊢
            rcases Bool.eq_false_or_eq_true (decide (i_14 < ((a_l.length : Nat) : Int))) with q_15 | q_15
            · rw [q_15, cond_true] at hb3
              repeat' (first | refine p_ rfl rfl rfl rfl rfl ?_ | refine st_nil ?_ | refine x_ rfl rfl rfl rfl rfl rfl rfl rfl ?_ | refine l_ rfl rfl rfl rfl ?_ | refine s_ rfl rfl rfl ?_ | refine t_ rfl rfl rfl rfl ?_ | refine k_ rfl rfl rfl ?_ | refine k0_ rfl rfl ?_ | refine c_ rfl rfl rfl rfl ?_ | refine pick_t rfl rfl rfl rfl rfl rfl rfl ?_ | refine pick_f rfl rfl rfl rfl rfl rfl rfl ?_ | refine aw_seq ?_ | refine aw_region tab_ok _ rfl ?_ | refine aw_drawn2 tabS_ok _ rfl mixed (by decide +kernel) ?_ | refine aw_condT rfl ?_ | refine aw_condF rfl ?_ | refine aw_block ?_ | refine aw_exit ?_ | refine aw_ret ?_ | refine aw_skip ?_ | rw [List.length_map] | rw [mn_norm] | rw [mx_norm])
              refine aw_loopM (fun s : Bool × Int => match s with | (is_16, t_17) => [(0, .one (.c (.lst (a_l.map cVer)))), (1, .one (.c (.int .i64 a_from))), (2, .one (.c (.int .i64 a_to))), (7, .one (.c (.lst (r_12.map cVer)))), (8, .one (.c (.int .i64 n_13))), (9, .one (.c (.int .i64 i_14))), (10, .one (.c (.bool is_16))), (11, .one (.c (.int .i64 t_17)))]) (fun s => match s with | (is_16, t_17) => []) hb3 (fun _ => Nat.zero_le _)
                (fits_mk ⟨rfl, rfl, rfl, rfl, rfl, rfl, rfl, rfl, trivial⟩ [] rfl ⟨trivial, trivial, trivial, trivial, trivial, trivial, trivial, trivial, trivial⟩ trivial) ?_
              rintro ⟨is_16, t_17⟩ st4 hb4 hk4
              unfold gLawRanges_B4 at hb4
              dsimp only at hb4 ⊢
              rcases Bool.eq_false_or_eq_true (decide (t_17 < a_to)) with q_18 | q_18
              · rw [q_18, cond_true] at hb4
                rcases Bool.eq_false_or_eq_true is_16 with q_19 | q_19
                · rw [q_19, cond_true] at hb4
                  obtain rfl := Option.some.inj hb4
                  repeat' (first | refine p_ rfl rfl rfl rfl rfl ?_ | refine st_nil ?_ | refine x_ rfl rfl rfl rfl rfl rfl rfl rfl ?_ | refine l_ rfl rfl rfl rfl ?_ | refine s_ rfl rfl rfl ?_ | refine t_ rfl rfl rfl rfl ?_ | refine k_ rfl rfl rfl ?_ | refine k0_ rfl rfl ?_ | refine c_ rfl rfl rfl rfl ?_ | refine pick_t rfl rfl rfl rfl rfl rfl rfl ?_ | refine pick_f rfl rfl rfl rfl rfl rfl rfl ?_ | refine aw_seq ?_ | refine aw_region tab_ok _ rfl ?_ | refine aw_drawn2 tabS_ok _ rfl mixed (by decide +kernel) ?_ | refine aw_condT rfl ?_ | refine aw_condF rfl ?_ | refine aw_block ?_ | refine aw_exit ?_ | refine aw_ret ?_ | refine aw_skip ?_ | rw [List.length_map] | rw [mn_norm] | rw [mx_norm])
                  exact ⟨_, rfl, fits_mk ⟨rfl, rfl, rfl, rfl, rfl, rfl, rfl, rfl, trivial⟩ [] rfl ⟨trivial, trivial, trivial, trivial, trivial, trivial, trivial, trivial, trivial⟩ trivial⟩
                · rw [q_19, cond_false] at hb4
                  obtain ⟨s_20, u3, hb4⟩ := bind_some hb4
                  obtain ⟨⟨u3a, u3b, u3c⟩, u3⟩ := subI_some u3
                  have u3x := subE (f := cVer) u3
                  obtain ⟨r_21, c4, hb4⟩ := bind_some hb4
                  replace c4 := gSel_ok c4
                  try simp only [List.map_append, List.map_cons, List.map_nil, List.nil_append, tE_eq, tP_eq] at c4
                  obtain rfl := Option.some.inj hb4
                  repeat' (first | refine p_ rfl rfl rfl rfl rfl ?_ | refine st_nil ?_ | refine x_ rfl rfl rfl rfl rfl rfl rfl rfl ?_ | refine l_ rfl rfl rfl rfl ?_ | refine s_ rfl rfl rfl ?_ | refine t_ rfl rfl rfl rfl ?_ | refine k_ rfl rfl rfl ?_ | refine k0_ rfl rfl ?_ | refine c_ rfl rfl rfl rfl ?_ | refine pick_t rfl rfl rfl rfl rfl rfl rfl ?_ | refine pick_f rfl rfl rfl rfl rfl rfl rfl ?_ | refine aw_seq ?_ | refine aw_region tab_ok _ rfl ?_ | refine aw_drawn2 tabS_ok _ rfl mixed (by decide +kernel) ?_ | refine aw_condT rfl ?_ | refine aw_condF rfl ?_ | refine aw_block ?_ | refine aw_exit ?_ | refine aw_ret ?_ | refine aw_skip ?_ | rw [List.length_map] | rw [mn_norm] | rw [mx_norm] | rw [u3x])
                  exact ⟨_, rfl, fits_mk ⟨rfl, rfl, rfl, rfl, rfl, rfl, rfl, rfl, trivial⟩ [] rfl ⟨trivial, trivial, trivial, trivial, trivial, trivial, trivial, trivial, trivial⟩ trivial⟩
              · rw [q_18, cond_false] at hb4
                obtain rfl := Option.some.inj hb4
                have hx4 : gLawRanges_K4 a_l r_12 n_13 i_14 (.inl (is_16, t_17)) = some _ := hk4
                unfold gLawRanges_K4 at hx4
                dsimp only at hx4
                rcases Bool.eq_false_or_eq_true is_16 with q_22 | q_22
                · rw [q_22, cond_true] at hx4
                  rcases Bool.eq_false_or_eq_true (decide (((r_12.length : Nat) : Int) ≤ n_13)) with q_23 | q_23
                  · rw [q_23, cond_true] at hx4
                    obtain rfl := Option.some.inj hx4
                    have hx3 : gLawRanges_K3 a_l a_from a_to r_12 (.inr false) = some _ := hk3
                    unfold gLawRanges_K3 at hx3
                    dsimp only at hx3
                    obtain rfl := Option.some.inj hx3
                    exact go_
                  · rw [q_23, cond_false] at hx4
                    obtain ⟨x_24, i5, hx4⟩ := bind_some hx4
                    obtain ⟨i5z, i5⟩ := getI_some i5
                    have i5x := idxI (f := cVer) i5
                    obtain ⟨x_25, i6, hx4⟩ := bind_some hx4
                    obtain ⟨i6z, i6⟩ := getI_some i6
                    have i6x := idxI (f := cVer) i6
                    obtain ⟨r_26, c7, hx4⟩ := bind_some hx4
                    replace c7 := gSameV_ok c7
                    try simp only [List.map_append, List.map_cons, List.map_nil, List.nil_append, tE_eq, tP_eq] at c7
                    rcases Bool.eq_false_or_eq_true (!r_26) with q_27 | q_27
                    · rw [q_27, cond_true] at hx4
                      obtain rfl := Option.some.inj hx4
                      have hx3 : gLawRanges_K3 a_l a_from a_to r_12 (.inr false) = some _ := hk3
                      unfold gLawRanges_K3 at hx3
                      dsimp only at hx3
                      obtain rfl := Option.some.inj hx3
                      exact go_
                    · rw [q_27, cond_false] at hx4
                      obtain rfl := Option.some.inj hx4
                      repeat' (first | refine p_ rfl rfl rfl rfl rfl ?_ | refine st_nil ?_ | refine x_ rfl rfl rfl rfl rfl rfl rfl rfl ?_ | refine l_ rfl rfl rfl rfl ?_ | refine s_ rfl rfl rfl ?_ | refine t_ rfl rfl rfl rfl ?_ | refine k_ rfl rfl rfl ?_ | refine k0_ rfl rfl ?_ | refine c_ rfl rfl rfl rfl ?_ | refine pick_t rfl rfl rfl rfl rfl rfl rfl ?_ | refine pick_f rfl rfl rfl rfl rfl rfl rfl ?_ | refine aw_seq ?_ | refine aw_region tab_ok _ rfl ?_ | refine aw_drawn2 tabS_ok _ rfl mixed (by decide +kernel) ?_ | refine aw_condT rfl ?_ | refine aw_condF rfl ?_ | refine aw_block ?_ | refine aw_exit ?_ | refine aw_ret ?_ | refine aw_skip ?_ | rw [List.length_map] | rw [mn_norm] | rw [mx_norm])
                      exact ⟨_, rfl, fits_mk ⟨rfl, rfl, rfl, rfl, rfl, rfl, trivial⟩ [] rfl ⟨trivial, trivial, trivial, trivial, trivial, trivial, trivial⟩ trivial⟩
                · rw [q_22, cond_false] at hx4
                  obtain rfl := Option.some.inj hx4
                  repeat' (first | refine p_ rfl rfl rfl rfl rfl ?_ | refine st_nil ?_ | refine x_ rfl rfl rfl rfl rfl rfl rfl rfl ?_ | refine l_ rfl rfl rfl rfl ?_ | refine s_ rfl rfl rfl ?_ | refine t_ rfl rfl rfl rfl ?_ | refine k_ rfl rfl rfl ?_ | refine k0_ rfl rfl ?_ | refine c_ rfl rfl rfl rfl ?_ | refine pick_t rfl rfl rfl rfl rfl rfl rfl ?_ | refine pick_f rfl rfl rfl rfl rfl rfl rfl ?_ | refine aw_seq ?_ | refine aw_region tab_ok _ rfl ?_ | refine aw_drawn2 tabS_ok _ rfl mixed (by decide +kernel) ?_ | refine aw_condT rfl ?_ | refine aw_condF rfl ?_ | refine aw_block ?_ | refine aw_exit ?_ | refine aw_ret ?_ | refine aw_skip ?_ | rw [List.length_map] | rw [mn_norm] | rw [mx_norm])
                  exact ⟨_, rfl, fits_mk ⟨rfl, rfl, rfl, rfl, rfl, rfl, trivial⟩ [] rfl ⟨trivial, trivial, trivial, trivial, trivial, trivial, trivial⟩ trivial⟩
            · rw [q_15, cond_false] at hb3
              obtain rfl := Option.some.inj hb3
              have hx3 : gLawRanges_K3 a_l a_from a_to r_12 (.inl (n_13, i_14)) = some _ := hk3
              unfold gLawRanges_K3 at hx3
              dsimp only at hx3
              rcases Bool.eq_false_or_eq_true (decide (n_13 ≠ ((r_12.length : Nat) : Int))) with q_28 | q_28
              · rw [q_28, cond_true] at hx3
                obtain rfl := Option.some.inj hx3
                exact go_
              · rw [q_28, cond_false] at hx3
                obtain ⟨r_29, c8, hx3⟩ := bind_some hx3
                replace c8 := gSel_ok c8
                try simp only [List.map_append, List.map_cons, List.map_nil, List.nil_append, tE_eq, tP_eq] at c8
                obtain ⟨r_30, c9, hx3⟩ := bind_some hx3
                replace c9 := gSameVs_ok c9
                try simp only [List.map_append, List.map_cons, List.map_nil, List.nil_append, tE_eq, tP_eq] at c9
                rcases Bool.eq_false_or_eq_true (!r_30) with q_31 | q_31
                · rw [q_31, cond_true] at hx3
                  obtain rfl := Option.some.inj hx3
                  exact go_
                · rw [q_31, cond_false] at hx3
                  obtain ⟨r_32, c10, hx3⟩ := bind_some hx3
                  replace c10 := gSel_ok c10
                  try simp only [List.map_append, List.map_cons, List.map_nil, List.nil_append, tE_eq, tP_eq] at c10
                  obtain ⟨r_33, c11, hx3⟩ := bind_some hx3
                  replace c11 := gSel_ok c11
                  try simp only [List.map_append, List.map_cons, List.map_nil, List.nil_append, tE_eq, tP_eq] at c11
                  obtain ⟨r_34, c12, hx3⟩ := bind_some hx3
                  replace c12 := gSameVs_ok c12
                  try simp only [List.map_append, List.map_cons, List.map_nil, List.nil_append, tE_eq, tP_eq] at c12
                  rcases Bool.eq_false_or_eq_true r_34 with q_35 | q_35
                  · rw [q_35, cond_true] at hx3
                    have hc_36 := awake_pure
                    try simp only [List.map_append, List.map_cons, List.map_nil, List.nil_append, tE_eq, tP_eq] at hc_36
                    obtain rfl := Option.some.inj hx3
                    exact go_
                  · rw [q_35, cond_false] at hx3
                    obtain rfl := Option.some.inj hx3
                    exact go_
end Go.Proofs.YtnbnpnmkgemdeaaGreatDoor
namespace Go.Proofs.YtnbnpnmkgemdeaaGreatDoor
open Go.RowKit Go.MapKept
set_option maxRecDepth 100000
set_option linter.unusedVariables false
set_option linter.unusedSimpArgs false
theorem wrap_id {x : Int} (h1 : -9223372036854775808 ≤ x) (h2 : x ≤ 9223372036854775807) : IntKind.i64.wrap x = x := wrap_in ⟨h1, h2⟩
def exB (x : Ver) : Int → Nat → Bool
  | _, 0 => false
  | t, n + 1 => selF ⟨1, t, 0⟩ x || exB x (t + 1) n
theorem subI_one {l : List Ver} {i : Nat} {x : Ver} (h : l[i]? = some x) : subI l (i : Int) ((i + 1 : Nat) : Int) = some [x] := by
  have hi : i < l.length := (List.getElem?_eq_some_iff.1 h).1
  unfold subI
  rw [if_pos ⟨by omega, by omega, by omega⟩]
  congr 1
  rw [Int.toNat_natCast, Int.toNat_natCast, take_succ h, List.drop_append_of_le_length (by rw [List.length_take]; omega), List.drop_of_length_le (by rw [List.length_take]; omega)]
  rfl
theorem inner {l : List Ver} {i : Nat} {x : Ver} {to : Int} (hx : l[i]? = some x) (hr : x.row.length ≤ 60) (hl : l.length ≤ 16) (ht : to ≤ 1099511627775) : ∀ (n : Nat) (t : Int) (is : Bool) (m : Nat), t + n = to → 0 ≤ t → n < m → loopM (gLawRanges_B4 l to (i : Int)) m (is, t) = some (.inl (is || exB x t n, to))
  | 0, t, is, 0, _, _, hm => by omega
  | 0, t, is, m + 1, h, h0, _ => by
    rw [loopM]
    unfold gLawRanges_B4
    dsimp only
    rw [show decide (t < to) = false from decide_eq_false (by omega), cond_false]
    have : t = to := by omega
    subst this
    simp [exB]
  | n + 1, t, is, 0, _, _, hm => by omega
  | n + 1, t, is, m + 1, h, h0, hm => by
    have hi : i < l.length := (List.getElem?_eq_some_iff.1 hx).1
    rw [loopM]
    have hb : gLawRanges_B4 l to (i : Int) (is, t) = some (.next (is || selF ⟨1, t, 0⟩ x, t + 1)) := by
      unfold gLawRanges_B4
      dsimp only
      rw [show decide (t < to) = true from decide_eq_true (by omega), cond_true, wrapN (by omega), wrap_id (by omega) (by omega)]
      cases is with
      | true => rfl
      | false =>
        rw [cond_false, subI_one hx]
        simp only [Option.bind_some]
        rw [gSel_eq _ (fun v hv => by rw [List.mem_singleton.1 hv]; omega) (by simp)]
        simp only [Option.bind_some, Bool.false_or, List.filter_cons, List.filter_nil]
        cases selF ⟨1, t, 0⟩ x <;> rfl
    rw [hb]
    dsimp only
    rw [inner hx hr hl ht n (t + 1) _ m (by omega) (by omega) (by omega), exB, Bool.or_assoc]
theorem exB_iff (x : Ver) : ∀ (n : Nat) (t : Int), exB x t n = true ↔ validF x.system = true ∧ ∃ k : Nat, k < n ∧ x.system.lo ≤ t + k ∧ t + k < x.system.hi
  | 0, t => by simp [exB]
  | n + 1, t => by
    rw [exB, Bool.or_eq_true, exB_iff x n (t + 1)]
    have hs : selF ⟨1, t, 0⟩ x = true ↔ validF x.system = true ∧ x.system.lo ≤ t ∧ t < x.system.hi := by
      show (validF x.system && (validF x.system && (decide (x.system.lo ≤ t) && decide (t < x.system.hi)))) = true ↔ _
      simp only [Bool.and_eq_true, decide_eq_true_eq]
      constructor
      · rintro ⟨h1, _, h2, h3⟩; exact ⟨h1, h2, h3⟩
      · rintro ⟨h1, h2, h3⟩; exact ⟨h1, h1, h2, h3⟩
    rw [hs]
    constructor
    · rintro (⟨h1, h2, h3⟩ | ⟨h1, k, hk, h2, h3⟩)
      · exact ⟨h1, 0, by omega, by omega, by omega⟩
      · exact ⟨h1, k + 1, by omega, by omega, by omega⟩
    · rintro ⟨h1, k, hk, h2, h3⟩
      cases k with
      | zero => exact .inl ⟨h1, by omega, by omega⟩
      | succ k => exact .inr ⟨h1, k, by omega, by omega, by omega⟩
theorem bool_iff {a b : Bool} (h : a = true ↔ b = true) : a = b := by
  cases a <;> cases b <;> simp_all
theorem valid_iff (p : Per) : validF p = true ↔ 0 ≤ p.lo ∧ p.lo < p.hi ∧ p.hi ≤ 1099511627776 := by
  unfold validF; simp
theorem exB_sel (x : Ver) {a b : Int} (hab : a < b) : exB x a (b - a).toNat = selF ⟨2, a, b⟩ x := by
  apply bool_iff
  rw [exB_iff]
  show _ ↔ (validF x.system && (decide (a < b) && (decide (x.system.lo < b) && decide (a < x.system.hi)))) = true
  simp only [Bool.and_eq_true, valid_iff, decide_eq_true_eq]
  constructor
  · rintro ⟨hv, k, hk, h1, h2⟩
    exact ⟨hv, hab, by omega, by omega⟩
  · rintro ⟨hv, _, h1, h2⟩
    refine ⟨hv, (max a x.system.lo - a).toNat, by omega, by omega, by omega⟩
theorem sel_between (x : Ver) {a b : Int} (hab : a < b) : selF ⟨3, a, b - 1⟩ x = selF ⟨2, a, b⟩ x := by
  apply bool_iff
  show (validF x.system && (decide (a ≤ b - 1) && (decide (x.system.lo ≤ b - 1) && decide (a < x.system.hi)))) = true ↔ (validF x.system && (decide (a < b) && (decide (x.system.lo < b) && decide (a < x.system.hi)))) = true
  simp only [Bool.and_eq_true, valid_iff, decide_eq_true_eq]
  omega
theorem sel_current (x : Ver) : selF ⟨0, 0, 0⟩ x = selF ⟨1, 1099511627775, 0⟩ x := by
  apply bool_iff
  show (validF x.system && decide (x.system.hi = 1099511627776)) = true ↔ (validF x.system && (validF x.system && (decide (x.system.lo ≤ 1099511627775) && decide (1099511627775 < x.system.hi)))) = true
  simp only [Bool.and_eq_true, valid_iff, decide_eq_true_eq]
  omega
theorem filter_at {α : Type} (p : α → Bool) : ∀ (l : List α) (i : Nat) (x : α), l[i]? = some x → p x = true → (l.filter p)[((l.take i).filter p).length]? = some x
  | y :: l, 0, x, h, hp => by
    simp at h; subst h
    simp [hp]
  | y :: l, i + 1, x, h, hp => by
    have h' : l[i]? = some x := by simpa using h
    have ih := filter_at p l i x h' hp
    rw [List.take_succ_cons, List.filter_cons, List.filter_cons]
    cases p y
    · simpa using ih
    · simpa using ih
  | [], i, x, h, _ => by simp at h
theorem lt_le {α : Type} {l : List α} {i : Nat} {x : α} (h : l[i]? = some x) : decide (((l.length : Nat) : Int) ≤ ((i : Nat) : Int)) = false := by
  have hi : i < l.length := (List.getElem?_eq_some_iff.1 h).1
  exact decide_eq_false (by omega)
theorem outer {l : List Ver} {a b : Int} (hr : ∀ v ∈ l, v.row.length ≤ 60) (hl : l.length ≤ 16) (h0 : 0 ≤ a) (hab : a < b) (hb : b ≤ 1099511627775) : ∀ (k i m : Nat), i + k = l.length → k < m →
    loopM (gLawRanges_B3 l a b (l.filter (selF ⟨2, a, b⟩))) m (((((l.take i).filter (selF ⟨2, a, b⟩)).length : Nat) : Int), ((i : Nat) : Int)) = some (.inl ((((l.filter (selF ⟨2, a, b⟩)).length : Nat) : Int), ((l.length : Nat) : Int)))
  | 0, i, 0, _, hm => by omega
  | 0, i, m + 1, h, _ => by
    have : i = l.length := by omega
    subst this
    rw [loopM]
    unfold gLawRanges_B3
    dsimp only
    rw [lt_decF, cond_false, List.take_length]
  | k + 1, i, 0, _, hm => by omega
  | k + 1, i, m + 1, h, hm => by
    have hi : i < l.length := by omega
    obtain ⟨x, hx⟩ : ∃ x, l[i]? = some x := ⟨_, List.getElem?_eq_getElem hi⟩
    have hxr := hr x (List.mem_of_getElem? hx)
    have hn : ((l.take i).filter (selF ⟨2, a, b⟩)).length ≤ 16 := by
      have h1 := List.length_filter_le (selF ⟨2, a, b⟩) (l.take i)
      rw [List.length_take] at h1; omega
    have hb' : gLawRanges_B3 l a b (l.filter (selF ⟨2, a, b⟩)) (((((l.take i).filter (selF ⟨2, a, b⟩)).length : Nat) : Int), ((i : Nat) : Int)) = some (.next (((((l.take (i + 1)).filter (selF ⟨2, a, b⟩)).length : Nat) : Int), ((i + 1 : Nat) : Int))) := by
      unfold gLawRanges_B3
      dsimp only
      rw [lt_dec hx, cond_true, inner hx hxr hl hb (b - a).toNat a false fuel (by omega) h0 (by unfold fuel; omega), Bool.false_or, exB_sel x hab]
      simp only [Option.bind_some]
      unfold gLawRanges_K4
      rw [take_succ hx, List.filter_append, List.filter_cons, List.filter_nil]
      cases hp : selF ⟨2, a, b⟩ x
      · simp only [cond_false, Bool.false_eq_true, if_false, List.append_nil]
        rw [wrapN (by omega)]
      · have hat := filter_at (selF ⟨2, a, b⟩) l i x hx hp
        simp only [cond_true, if_true]
        rw [lt_le hat, cond_false, getI_nat hat, getI_nat hx]
        simp only [Option.bind_some]
        rw [gSameV_refl x (by omega), wrapN (by omega), wrapN (by omega)]
        simp
    rw [loopM, hb']
    exact outer hr hl h0 hab hb k (i + 1) m (by omega) (by omega)
theorem gLawRanges_true {l : List Ver} {a b : Int} (hl : LOk 88 okVer l) : gLawRanges l a b = some true := by
  have hlen : l.length ≤ 3000000000000 := by
    have := hl.1
    unfold reachBytes at this
    omega
  unfold gLawRanges
  rw [gFew_eq l hlen]
  simp only [Option.bind_some]
  cases hf : fewF (l.map factOf) 16 with
  | false => rfl
  | true =>
    obtain ⟨h16, hr⟩ := few_of hf
    simp only [Bool.not_true, cond_false]
    by_cases h0 : a < 0
    · rw [show decide (a < 0) = true from decide_eq_true h0]; rfl
    rw [show decide (a < 0) = false from decide_eq_false h0, cond_false]
    by_cases h1 : 1099511627775 < b
    · rw [show decide ((1099511627775 : Int) < b) = true from decide_eq_true h1]; rfl
    rw [show decide ((1099511627775 : Int) < b) = false from decide_eq_false h1, cond_false]
    by_cases h2 : b ≤ a
    · rw [show decide (b ≤ a) = true from decide_eq_true h2]; rfl
    rw [show decide (b ≤ a) = false from decide_eq_false h2, cond_false]
    cases decide ((20 : Int) < IntKind.i64.wrap (b - a)) with
    | true => rfl
    | false =>
      rw [cond_false]
      have hr' : ∀ v ∈ l, v.row.length ≤ 1000000 := fun v hv => by have := hr v hv; omega
      have hl' : l.length ≤ 1000000 := by omega
      rw [gSel_eq _ hr' hl']
      simp only [Option.bind_some]
      have ho := outer (l := l) (a := a) (b := b) hr h16 (by omega) (by omega) (by omega) l.length 0 fuel (by omega) (by unfold fuel; omega)
      simp only [List.take_zero, List.filter_nil, List.length_nil] at ho
      rw [show (((0 : Nat) : Int)) = 0 from rfl] at ho
      rw [ho]
      simp only [Option.bind_some]
      unfold gLawRanges_K3
      simp only [ne_eq, not_true_eq_false, decide_false, cond_false]
      rw [wrap_id (by omega) (by omega), gSel_eq _ hr' hl', gSel_eq _ hr' hl', gSel_eq _ hr' hl']
      simp only [Option.bind_some]
      have e1 : l.filter (selF ⟨3, a, b - 1⟩) = l.filter (selF ⟨2, a, b⟩) := by
        congr 1; funext x; exact sel_between x (by omega)
      have e2 : l.filter (selF ⟨0, 0, 0⟩) = l.filter (selF ⟨1, 1099511627775, 0⟩) := by
        congr 1; funext x; exact sel_current x
      rw [e1, e2, gSameVs_refl _ (fun v hv => hr' v (List.mem_filter.1 hv).1) (Nat.le_trans (List.length_filter_le _ _) hl'), gSameVs_refl _ (fun v hv => hr' v (List.mem_filter.1 hv).1) (Nat.le_trans (List.length_filter_le _ _) hl')]
      rfl
theorem nonseqRanges_pure {l : List Ver} {a b : Int} (hl : LOk 88 okVer l) (_ : IOk a) (_ : IOk b) : Pure Tryz.prog 6 [.one (.lst (l.map cVer)), .one (.int .i64 a), .one (.int .i64 b)] (.val (.one (.bool true))) := gLawRanges_ok (gLawRanges_true hl)
end Go.Proofs.YtnbnpnmkgemdeaaGreatDoor
