/- Parts of the proof, joined (E4 N6). No condition. -/
import Derived.Test.YtnbnpnmkgemdeaaGreatDoorKC
import Derived.Test.YtnbnpnmkgemdeaaGreatDoorKT
import Derived.Test.YtnbnpnmkgemdeaaGreatDoorKN
set_option linter.unusedSimpArgs false
set_option linter.unusedVariables false
namespace Go.Proofs.YtnbnpnmkgemdeaaGreatDoor
open Go.RowKit Go.MapKept
set_option linter.unusedVariables false
def ownL (f : FuncId) : Bool := Nat.beq f 184 || Nat.beq f 186 || Nat.beq f 187 || Nat.beq f 228 || Nat.beq f 274 || Nat.beq f 246 || Nat.beq f 219 || Nat.beq f 165 || Nat.beq f 147 || Nat.beq f 117 || Nat.beq f 106 || Nat.beq f 150 || Nat.beq f 140 || Nat.beq f 188 || Nat.beq f 98 || Nat.beq f 145 || Nat.beq f 234 || Nat.beq f 201 || Nat.beq f 202 || Nat.beq f 245 || Nat.beq f 281 || Nat.beq f 230 || Nat.beq f 231 || Nat.beq f 276 || Nat.beq f 299 || Nat.beq f 142 || Nat.beq f 189 || Nat.beq f 190 || Nat.beq f 191 || Nat.beq f 192 || Nat.beq f 193 || Nat.beq f 194 || Nat.beq f 195 || Nat.beq f 196 || Nat.beq f 232 || Nat.beq f 235 || Nat.beq f 236 || Nat.beq f 199 || Nat.beq f 237 || Nat.beq f 238 || Nat.beq f 239 || Nat.beq f 240 || Nat.beq f 241 || Nat.beq f 242 || Nat.beq f 243 || Nat.beq f 244 || Nat.beq f 278 || Nat.beq f 279 || Nat.beq f 280
def rowL (f : FuncId) (d : Nat) : Bool := Nat.beq f 102 || Nat.beq f 97 || Nat.beq f 80 || Nat.beq f 164 || Nat.beq f 139 || Nat.beq f 184 || Nat.beq f 186 || (Nat.beq f 124 && Nat.beq d 27) || (Nat.beq f 124 && Nat.beq d 28) || (Nat.beq f 124 && Nat.beq d 55) || (Nat.beq f 124 && Nat.beq d 56) || (Nat.beq f 96 && Nat.beq d 41) || (Nat.beq f 96 && Nat.beq d 42)
def frzT (f : FuncId) (id : Nat) : List Nat :=
  if (Nat.beq f 42 && Nat.beq id 5) = true then [1] else
  if (Nat.beq f 42 && Nat.beq id 7) = true then [1] else
  if (Nat.beq f 42 && Nat.beq id 9) = true then [1] else
  if (Nat.beq f 90 && Nat.beq id 4) = true then [3] else
  []
def flgT (f : FuncId) (id : Nat) : Bool × Bool :=
  (false, true)
def badL (f : FuncId) : Bool := Nat.beq f 253
def tabX : TI := { tab with owns := ownL }
theorem tabX_ok : TIok Tryz.prog tabX := ⟨tab_ok.size, tab_ok.agg, tab_ok.elem, tab_ok.field, tab_ok.zero, tab_ok.bytes, tab_ok.kind, tab_ok.struct, tab_ok.zok, tab_ok.eqs⟩
def orcT : FuncId → List PV → Option CV := fun _ _ => none
noncomputable def cx : Cx := { P := Tryz.prog, ti := tabX, xs := ⟨274, 246⟩, row := rowL, frz := frzT, flg := flgT, orc := orcT, bad := badL }
theorem ne_ok : NoEsc Tryz.prog 274 := ⟨_, Tryz.func274, by kernel_rfl, by kernel_rfl, by kernel_rfl, by kernel_rfl⟩
theorem cs_ok : CmpS Tryz.prog 246 := ⟨_, Tryz.func246, by kernel_rfl, by kernel_rfl, by kernel_rfl, by kernel_rfl⟩
theorem names_ok : namesB Tryz.prog.funcs.toList = true := by kernel_rfl
theorem codes_ok : codesB cx Tryz.prog.funcs.toList 0 = true := by kernel_rfl
theorem cx_ok : CxOK cx := CxOK.of tabX_ok ⟨ne_ok, cs_ok⟩ mixed names_ok codes_ok (fun g ps r h => by cases h)
theorem awake_run : (evF cx 64).1 11 [] = some (.val (.one (.bool true))) := by kernel_rfl
theorem awake_pure : Pure Tryz.prog 11 [] (.val (.one (.bool true))) := (evF_ok cx_ok 64).1 _ _ _ awake_run
end Go.Proofs.YtnbnpnmkgemdeaaGreatDoor

namespace Go.Proofs.YtnbnpnmkgemdeaaGreatDoor
open Go.RowKit Go.MapKept
set_option maxRecDepth 100000
set_option maxHeartbeats 8000000
set_option linter.unusedVariables false
set_option linter.unusedSimpArgs false
def gLawRanges_B4 (a_l : (List Ver)) (a_to : Int) (i_14 : Int) : (Bool × Int) → Option (Step (Bool × Int) (Bool)) := fun s => match s with
  | (is_16, t_17) => bif (decide (t_17 < a_to)) then
    bif is_16 then
      some (.next (true, (IntKind.i64.wrap (t_17 + (1 : Int)))))
    else
      (subI a_l i_14 (IntKind.i64.wrap (i_14 + (1 : Int)))).bind fun s_20 => (gSel s_20 (⟨(1 : Int), t_17, (0 : Int)⟩ : Cla)).bind fun r_21 => some (.next ((decide (((r_21.length : Nat) : Int) = (1 : Int))), (IntKind.i64.wrap (t_17 + (1 : Int)))))
  else
    some (.exit (is_16, t_17))
def gLawRanges_K4 (a_l : (List Ver)) (r_12 : (List Ver)) (n_13 : Int) (i_14 : Int) : Sum (Bool × Int) (Bool) → Option (Step (Int × Int) (Bool))
  | .inl (is_16, t_17) => bif is_16 then
    bif (decide (((r_12.length : Nat) : Int) ≤ n_13)) then
      some (.ret false)
    else
      (getI r_12 n_13).bind fun x_24 => (getI a_l i_14).bind fun x_25 => (gSameV x_24 x_25).bind fun r_26 => bif (!r_26) then
        some (.ret false)
      else
        some (.next ((IntKind.i64.wrap (n_13 + (1 : Int))), (IntKind.i64.wrap (i_14 + (1 : Int)))))
  else
    some (.next (n_13, (IntKind.i64.wrap (i_14 + (1 : Int)))))
  | .inr q => some (.ret q)
def gLawRanges_B3 (a_l : (List Ver)) (a_from : Int) (a_to : Int) (r_12 : (List Ver)) : (Int × Int) → Option (Step (Int × Int) (Bool)) := fun s => match s with
  | (n_13, i_14) => bif (decide (i_14 < ((a_l.length : Nat) : Int))) then
    (loopM (gLawRanges_B4 a_l a_to i_14) fuel (false, a_from)).bind (gLawRanges_K4 a_l r_12 n_13 i_14)
  else
    some (.exit (n_13, i_14))
def gLawRanges_K3 (a_l : (List Ver)) (a_from : Int) (a_to : Int) (r_12 : (List Ver)) : Sum (Int × Int) (Bool) → Option ((Bool))
  | .inl (n_13, i_14) => bif (decide (n_13 ≠ ((r_12.length : Nat) : Int))) then
    some false
  else
    (gSel a_l (⟨(3 : Int), a_from, (IntKind.i64.wrap (a_to - (1 : Int)))⟩ : Cla)).bind fun r_29 => (gSameVs r_12 r_29).bind fun r_30 => bif (!r_30) then
      some false
    else
      (gSel a_l (⟨(0 : Int), (0 : Int), (0 : Int)⟩ : Cla)).bind fun r_32 => (gSel a_l (⟨(1 : Int), (1099511627775 : Int), (0 : Int)⟩ : Cla)).bind fun r_33 => (gSameVs r_32 r_33).bind fun r_34 => bif r_34 then
        some (true)
      else
        some false
  | .inr q => some q
def gLawRanges (a_l : (List Ver)) (a_from : Int) (a_to : Int) : Option (Bool) := (gFew a_l).bind fun r_1 => bif (!r_1) then
  some (true)
else
  bif (decide (a_from < (0 : Int))) then
    some (true)
  else
    bif (decide ((1099511627775 : Int) < a_to)) then
      some (true)
    else
      bif (decide (a_to ≤ a_from)) then
        some (true)
      else
        bif (decide ((20 : Int) < (IntKind.i64.wrap (a_to - a_from)))) then
          some (true)
        else
          (gSel a_l (⟨(2 : Int), a_from, a_to⟩ : Cla)).bind fun r_12 => (loopM (gLawRanges_B3 a_l a_from a_to r_12) fuel ((0 : Int), (0 : Int))).bind (gLawRanges_K3 a_l a_from a_to r_12)
theorem gLawRanges_ok {a_l : (List Ver)} {a_from : Int} {a_to : Int} {r : Bool} (H : gLawRanges a_l a_from a_to = some r) : Pure Tryz.prog 6 [.one (.lst (a_l.map cVer)), .one (.int .i64 a_from), .one (.int .i64 a_to)] (.val (.one (.bool r))) := by
  unfold gLawRanges at H
  refine pure_of_aw tab_ok Tryz.func6 rfl rfl Tryz.ntmps6 (by simp) ?_
  simp only [argT, PV.av, List.map_cons, List.map_nil]
  obtain ⟨r_1, c1, H⟩ := bind_some H
  replace c1 := gFew_ok c1
  try simp only [List.map_append, List.map_cons, List.map_nil, List.nil_append, tE_eq, tP_eq] at c1
  rcases Bool.eq_false_or_eq_true (!r_1) with q_2 | q_2
  · rw [q_2, cond_true] at H
    have hc_3 := awake_pure
    try simp only [List.map_append, List.map_cons, List.map_nil, List.nil_append, tE_eq, tP_eq] at hc_3
    obtain rfl := Option.some.inj H
    exact go_
  · rw [q_2, cond_false] at H
    rcases Bool.eq_false_or_eq_true (decide (a_from < (0 : Int))) with q_4 | q_4
    · rw [q_4, cond_true] at H
      have hc_5 := awake_pure
      try simp only [List.map_append, List.map_cons, List.map_nil, List.nil_append, tE_eq, tP_eq] at hc_5
      obtain rfl := Option.some.inj H
      exact go_
    · rw [q_4, cond_false] at H
      rcases Bool.eq_false_or_eq_true (decide ((1099511627775 : Int) < a_to)) with q_6 | q_6
      · rw [q_6, cond_true] at H
        have hc_7 := awake_pure
        try simp only [List.map_append, List.map_cons, List.map_nil, List.nil_append, tE_eq, tP_eq] at hc_7
        obtain rfl := Option.some.inj H
        exact go_
      · rw [q_6, cond_false] at H
        rcases Bool.eq_false_or_eq_true (decide (a_to ≤ a_from)) with q_8 | q_8
        · rw [q_8, cond_true] at H
          have hc_9 := awake_pure
          try simp only [List.map_append, List.map_cons, List.map_nil, List.nil_append, tE_eq, tP_eq] at hc_9
          obtain rfl := Option.some.inj H
          exact go_
        · rw [q_8, cond_false] at H
          rcases Bool.eq_false_or_eq_true (decide ((20 : Int) < (IntKind.i64.wrap (a_to - a_from)))) with q_10 | q_10
          · rw [q_10, cond_true] at H
            have hc_11 := awake_pure
            try simp only [List.map_append, List.map_cons, List.map_nil, List.nil_append, tE_eq, tP_eq] at hc_11
            obtain rfl := Option.some.inj H
            exact go_
          · rw [q_10, cond_false] at H
            obtain ⟨r_12, c2, H⟩ := bind_some H
            replace c2 := gSel_ok c2
            try simp only [List.map_append, List.map_cons, List.map_nil, List.nil_append, tE_eq, tP_eq] at c2
            repeat' (first | refine p_ rfl rfl rfl rfl rfl ?_ | refine st_nil ?_ | refine x_ rfl rfl rfl rfl rfl rfl rfl rfl ?_ | refine l_ rfl rfl rfl rfl ?_ | refine s_ rfl rfl rfl ?_ | refine t_ rfl rfl rfl rfl ?_ | refine k_ rfl rfl rfl ?_ | refine k0_ rfl rfl ?_ | refine c_ rfl rfl rfl rfl ?_ | refine pick_t rfl rfl rfl rfl rfl rfl rfl ?_ | refine pick_f rfl rfl rfl rfl rfl rfl rfl ?_ | refine aw_seq ?_ | refine aw_region tab_ok _ rfl ?_ | refine aw_drawn2 tabS_ok _ rfl mixed (by decide +kernel) ?_ | refine aw_condT rfl ?_ | refine aw_condF rfl ?_ | refine aw_block ?_ | refine aw_exit ?_ | refine aw_ret ?_ | refine aw_skip ?_ | rw [List.length_map] | rw [mn_norm] | rw [mx_norm])
            refine aw_loopM (fun s : Int × Int => match s with | (n_13, i_14) => [(0, .one (.c (.lst (a_l.map cVer)))), (1, .one (.c (.int .i64 a_from))), (2, .one (.c (.int .i64 a_to))), (7, .one (.c (.lst (r_12.map cVer)))), (8, .one (.c (.int .i64 n_13))), (9, .one (.c (.int .i64 i_14)))]) (fun s => match s with | (n_13, i_14) => []) H (fun _ => Nat.zero_le _)
              (fits_mk ⟨rfl, rfl, rfl, rfl, rfl, rfl, trivial⟩ [] rfl ⟨trivial, trivial, trivial, trivial, trivial, trivial, trivial⟩ trivial) ?_
            rintro ⟨n_13, i_14⟩ st3 hb3 hk3
            unfold gLawRanges_B3 at hb3
            dsimp only at hb3 ⊢
            rcases Bool.eq_false_or_eq_true (decide (i_14 < ((a_l.length : Nat) : Int))) with q_15 | q_15
            · rw [q_15, cond_true] at hb3
              repeat' (first | refine p_ rfl rfl rfl rfl rfl ?_ | refine st_nil ?_ | refine x_ rfl rfl rfl rfl rfl rfl rfl rfl ?_ | refine l_ rfl rfl rfl rfl ?_ | refine s_ rfl rfl rfl ?_ | refine t_ rfl rfl rfl rfl ?_ | refine k_ rfl rfl rfl ?_ | refine k0_ rfl rfl ?_ | refine c_ rfl rfl rfl rfl ?_ | refine pick_t rfl rfl rfl rfl rfl rfl rfl ?_ | refine pick_f rfl rfl rfl rfl rfl rfl rfl ?_ | refine aw_seq ?_ | refine aw_region tab_ok _ rfl ?_ | refine aw_drawn2 tabS_ok _ rfl mixed (by decide +kernel) ?_ | refine aw_condT rfl ?_ | refine aw_condF rfl ?_ | refine aw_block ?_ | refine aw_exit ?_ | refine aw_ret ?_ | refine aw_skip ?_ | rw [List.length_map] | rw [mn_norm] | rw [mx_norm])
              refine aw_loopM (fun s : Bool × Int => match s with | (is_16, t_17) => [(0, .one (.c (.lst (a_l.map cVer)))), (1, .one (.c (.int .i64 a_from))), (2, .one (.c (.int .i64 a_to))), (7, .one (.c (.lst (r_12.map cVer)))), (8, .one (.c (.int .i64 n_13))), (9, .one (.c (.int .i64 i_14))), (10, .one (.c (.bool is_16))), (11, .one (.c (.int .i64 t_17)))]) (fun s => match s with | (is_16, t_17) => []) hb3 (fun _ => Nat.zero_le _)
                (fits_mk ⟨rfl, rfl, rfl, rfl, rfl, rfl, rfl, rfl, trivial⟩ [] rfl ⟨trivial, trivial, trivial, trivial, trivial, trivial, trivial, trivial, trivial⟩ trivial) ?_
              rintro ⟨is_16, t_17⟩ st4 hb4 hk4
              unfold gLawRanges_B4 at hb4
              dsimp only at hb4 ⊢
              rcases Bool.eq_false_or_eq_true (decide (t_17 < a_to)) with q_18 | q_18
              · rw [q_18, cond_true] at hb4
                rcases Bool.eq_false_or_eq_true is_16 with q_19 | q_19
                · rw [q_19, cond_true] at hb4
                  obtain rfl := Option.some.inj hb4
                  repeat' (first | refine p_ rfl rfl rfl rfl rfl ?_ | refine st_nil ?_ | refine x_ rfl rfl rfl rfl rfl rfl rfl rfl ?_ | refine l_ rfl rfl rfl rfl ?_ | refine s_ rfl rfl rfl ?_ | refine t_ rfl rfl rfl rfl ?_ | refine k_ rfl rfl rfl ?_ | refine k0_ rfl rfl ?_ | refine c_ rfl rfl rfl rfl ?_ | refine pick_t rfl rfl rfl rfl rfl rfl rfl ?_ | refine pick_f rfl rfl rfl rfl rfl rfl rfl ?_ | refine aw_seq ?_ | refine aw_region tab_ok _ rfl ?_ | refine aw_drawn2 tabS_ok _ rfl mixed (by decide +kernel) ?_ | refine aw_condT rfl ?_ | refine aw_condF rfl ?_ | refine aw_block ?_ | refine aw_exit ?_ | refine aw_ret ?_ | refine aw_skip ?_ | rw [List.length_map] | rw [mn_norm] | rw [mx_norm])
                  exact ⟨_, rfl, fits_mk ⟨rfl, rfl, rfl, rfl, rfl, rfl, rfl, rfl, trivial⟩ [] rfl ⟨trivial, trivial, trivial, trivial, trivial, trivial, trivial, trivial, trivial⟩ trivial⟩
                · rw [q_19, cond_false] at hb4
                  obtain ⟨s_20, u3, hb4⟩ := bind_some hb4
                  obtain ⟨⟨u3a, u3b, u3c⟩, u3⟩ := subI_some u3
                  have u3x := subE (f := cVer) u3
                  obtain ⟨r_21, c4, hb4⟩ := bind_some hb4
                  replace c4 := gSel_ok c4
                  try simp only [List.map_append, List.map_cons, List.map_nil, List.nil_append, tE_eq, tP_eq] at c4
                  obtain rfl := Option.some.inj hb4
                  repeat' (first | refine p_ rfl rfl rfl rfl rfl ?_ | refine st_nil ?_ | refine x_ rfl rfl rfl rfl rfl rfl rfl rfl ?_ | refine l_ rfl rfl rfl rfl ?_ | refine s_ rfl rfl rfl ?_ | refine t_ rfl rfl rfl rfl ?_ | refine k_ rfl rfl rfl ?_ | refine k0_ rfl rfl ?_ | refine c_ rfl rfl rfl rfl ?_ | refine pick_t rfl rfl rfl rfl rfl rfl rfl ?_ | refine pick_f rfl rfl rfl rfl rfl rfl rfl ?_ | refine aw_seq ?_ | refine aw_region tab_ok _ rfl ?_ | refine aw_drawn2 tabS_ok _ rfl mixed (by decide +kernel) ?_ | refine aw_condT rfl ?_ | refine aw_condF rfl ?_ | refine aw_block ?_ | refine aw_exit ?_ | refine aw_ret ?_ | refine aw_skip ?_ | rw [List.length_map] | rw [mn_norm] | rw [mx_norm] | rw [u3x])
                  exact ⟨_, rfl, fits_mk ⟨rfl, rfl, rfl, rfl, rfl, rfl, rfl, rfl, trivial⟩ [] rfl ⟨trivial, trivial, trivial, trivial, trivial, trivial, trivial, trivial, trivial⟩ trivial⟩
              · rw [q_18, cond_false] at hb4
                obtain rfl := Option.some.inj hb4
                have hx4 : gLawRanges_K4 a_l r_12 n_13 i_14 (.inl (is_16, t_17)) = some _ := hk4
                unfold gLawRanges_K4 at hx4
                dsimp only at hx4
                rcases Bool.eq_false_or_eq_true is_16 with q_22 | q_22
                · rw [q_22, cond_true] at hx4
                  rcases Bool.eq_false_or_eq_true (decide (((r_12.length : Nat) : Int) ≤ n_13)) with q_23 | q_23
                  · rw [q_23, cond_true] at hx4
                    obtain rfl := Option.some.inj hx4
                    have hx3 : gLawRanges_K3 a_l a_from a_to r_12 (.inr false) = some _ := hk3
                    unfold gLawRanges_K3 at hx3
                    dsimp only at hx3
                    obtain rfl := Option.some.inj hx3
                    exact go_
                  · rw [q_23, cond_false] at hx4
                    obtain ⟨x_24, i5, hx4⟩ := bind_some hx4
                    obtain ⟨i5z, i5⟩ := getI_some i5
                    have i5x := idxI (f := cVer) i5
                    obtain ⟨x_25, i6, hx4⟩ := bind_some hx4
                    obtain ⟨i6z, i6⟩ := getI_some i6
                    have i6x := idxI (f := cVer) i6
                    obtain ⟨r_26, c7, hx4⟩ := bind_some hx4
                    replace c7 := gSameV_ok c7
                    try simp only [List.map_append, List.map_cons, List.map_nil, List.nil_append, tE_eq, tP_eq] at c7
                    rcases Bool.eq_false_or_eq_true (!r_26) with q_27 | q_27
                    · rw [q_27, cond_true] at hx4
                      obtain rfl := Option.some.inj hx4
                      have hx3 : gLawRanges_K3 a_l a_from a_to r_12 (.inr false) = some _ := hk3
                      unfold gLawRanges_K3 at hx3
                      dsimp only at hx3
                      obtain rfl := Option.some.inj hx3
                      exact go_
                    · rw [q_27, cond_false] at hx4
                      obtain rfl := Option.some.inj hx4
                      repeat' (first | refine p_ rfl rfl rfl rfl rfl ?_ | refine st_nil ?_ | refine x_ rfl rfl rfl rfl rfl rfl rfl rfl ?_ | refine l_ rfl rfl rfl rfl ?_ | refine s_ rfl rfl rfl ?_ | refine t_ rfl rfl rfl rfl ?_ | refine k_ rfl rfl rfl ?_ | refine k0_ rfl rfl ?_ | refine c_ rfl rfl rfl rfl ?_ | refine pick_t rfl rfl rfl rfl rfl rfl rfl ?_ | refine pick_f rfl rfl rfl rfl rfl rfl rfl ?_ | refine aw_seq ?_ | refine aw_region tab_ok _ rfl ?_ | refine aw_drawn2 tabS_ok _ rfl mixed (by decide +kernel) ?_ | refine aw_condT rfl ?_ | refine aw_condF rfl ?_ | refine aw_block ?_ | refine aw_exit ?_ | refine aw_ret ?_ | refine aw_skip ?_ | rw [List.length_map] | rw [mn_norm] | rw [mx_norm])
                      exact ⟨_, rfl, fits_mk ⟨rfl, rfl, rfl, rfl, rfl, rfl, trivial⟩ [] rfl ⟨trivial, trivial, trivial, trivial, trivial, trivial, trivial⟩ trivial⟩
                · rw [q_22, cond_false] at hx4
                  obtain rfl := Option.some.inj hx4
                  repeat' (first | refine p_ rfl rfl rfl rfl rfl ?_ | refine st_nil ?_ | refine x_ rfl rfl rfl rfl rfl rfl rfl rfl ?_ | refine l_ rfl rfl rfl rfl ?_ | refine s_ rfl rfl rfl ?_ | refine t_ rfl rfl rfl rfl ?_ | refine k_ rfl rfl rfl ?_ | refine k0_ rfl rfl ?_ | refine c_ rfl rfl rfl rfl ?_ | refine pick_t rfl rfl rfl rfl rfl rfl rfl ?_ | refine pick_f rfl rfl rfl rfl rfl rfl rfl ?_ | refine aw_seq ?_ | refine aw_region tab_ok _ rfl ?_ | refine aw_drawn2 tabS_ok _ rfl mixed (by decide +kernel) ?_ | refine aw_condT rfl ?_ | refine aw_condF rfl ?_ | refine aw_block ?_ | refine aw_exit ?_ | refine aw_ret ?_ | refine aw_skip ?_ | rw [List.length_map] | rw [mn_norm] | rw [mx_norm])
                  exact ⟨_, rfl, fits_mk ⟨rfl, rfl, rfl, rfl, rfl, rfl, trivial⟩ [] rfl ⟨trivial, trivial, trivial, trivial, trivial, trivial, trivial⟩ trivial⟩
            · rw [q_15, cond_false] at hb3
              obtain rfl := Option.some.inj hb3
              have hx3 : gLawRanges_K3 a_l a_from a_to r_12 (.inl (n_13, i_14)) = some _ := hk3
              unfold gLawRanges_K3 at hx3
              dsimp only at hx3
              rcases Bool.eq_false_or_eq_true (decide (n_13 ≠ ((r_12.length : Nat) : Int))) with q_28 | q_28
              · rw [q_28, cond_true] at hx3
                obtain rfl := Option.some.inj hx3
                exact go_
              · rw [q_28, cond_false] at hx3
                obtain ⟨r_29, c8, hx3⟩ := bind_some hx3
                replace c8 := gSel_ok c8
                try simp only [List.map_append, List.map_cons, List.map_nil, List.nil_append, tE_eq, tP_eq] at c8
                obtain ⟨r_30, c9, hx3⟩ := bind_some hx3
                replace c9 := gSameVs_ok c9
                try simp only [List.map_append, List.map_cons, List.map_nil, List.nil_append, tE_eq, tP_eq] at c9
                rcases Bool.eq_false_or_eq_true (!r_30) with q_31 | q_31
                · rw [q_31, cond_true] at hx3
                  obtain rfl := Option.some.inj hx3
                  exact go_
                · rw [q_31, cond_false] at hx3
                  obtain ⟨r_32, c10, hx3⟩ := bind_some hx3
                  replace c10 := gSel_ok c10
                  try simp only [List.map_append, List.map_cons, List.map_nil, List.nil_append, tE_eq, tP_eq] at c10
                  obtain ⟨r_33, c11, hx3⟩ := bind_some hx3
                  replace c11 := gSel_ok c11
                  try simp only [List.map_append, List.map_cons, List.map_nil, List.nil_append, tE_eq, tP_eq] at c11
                  obtain ⟨r_34, c12, hx3⟩ := bind_some hx3
                  replace c12 := gSameVs_ok c12
                  try simp only [List.map_append, List.map_cons, List.map_nil, List.nil_append, tE_eq, tP_eq] at c12
                  rcases Bool.eq_false_or_eq_true r_34 with q_35 | q_35
                  · rw [q_35, cond_true] at hx3
                    have hc_36 := awake_pure
                    try simp only [List.map_append, List.map_cons, List.map_nil, List.nil_append, tE_eq, tP_eq] at hc_36
                    obtain rfl := Option.some.inj hx3
                    exact go_
                  · rw [q_35, cond_false] at hx3
                    obtain rfl := Option.some.inj hx3
                    exact go_
end Go.Proofs.YtnbnpnmkgemdeaaGreatDoor
