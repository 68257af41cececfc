/- Parts of the proof, joined. No condition. -/
import Derived.Test.YtnbnpnmkgemdeaaGreatDoorKAL
import Derived.Test.YtnbnpnmkgemdeaaGreatDoorKBK
import Derived.Test.YtnbnpnmkgemdeaaGreatDoorKYA
import Derived.Test.YtnbnpnmkgemdeaaGreatDoorKBM
import Derived.Test.YtnbnpnmkgemdeaaGreatDoorKYB
import Derived.Test.YtnbnpnmkgemdeaaGreatDoorKAK
import Derived.Test.YtnbnpnmkgemdeaaGreatDoorKBN
import Derived.ProofKit
import Derived.OpenShut
import Derived.ChangeOld
import Derived.Deep.Slices
set_option linter.unusedSimpArgs false
set_option linter.unusedVariables false
namespace Go.Proofs.YtnbnpnmkgemdeaaGreatDoor
open Go.RowKit Go.MapKept
set_option maxRecDepth 100000
set_option maxHeartbeats 8000000
set_option linter.unusedVariables false
set_option linter.unusedSimpArgs false
def gNull : Option (Val) := some (⟨(0 : Int), (0 : Int), ByteArray.empty⟩ : Val)
theorem gNull_ok {r : Val} (H : gNull = some r) : Pure Tryz.prog 149 [] (.val (.agg (cV r))) := by
  unfold gNull at H
  refine pure_of_aw tab_ok Tryz.func149 rfl rfl Tryz.ntmps149 (by simp) ?_
  simp only [argT, PV.av, List.map_cons, List.map_nil]
  obtain rfl := Option.some.inj H
  exact go_
def gPrintableP_B1 (a_s : ByteArray) : (Int) → Option (Step (Int) (Bool)) := fun s => match s with
  | v_1 => bif (decide (v_1 < ((a_s.size : Nat) : Int))) then
    (getB a_s v_1).bind fun b_3 => bif (decide (((b_3.toNat : Nat) : Int) < (32 : Int))) then
      some (.ret false)
    else
      bif (decide ((126 : Int) < ((b_3.toNat : Nat) : Int))) then
        some (.ret false)
      else
        some (.next (IntKind.i64.wrap (v_1 + (1 : Int))))
  else
    some (.exit v_1)
def gPrintableP_K1 : Sum (Int) (Bool) → Option ((Bool))
  | .inl v_1 => some true
  | .inr q => some q
def gPrintableP (a_s : ByteArray) : Option (Bool) := (loopM (gPrintableP_B1 a_s) fuel (0 : Int)).bind (gPrintableP_K1)
theorem gPrintableP_ok {a_s : ByteArray} {r : Bool} (H : gPrintableP a_s = some r) : Pure Tryz.prog 200 [.one (.str a_s)] (.val (.one (.bool r))) := by
  unfold gPrintableP at H
  refine pure_of_aw tab_ok Tryz.func200 rfl rfl Tryz.ntmps200 (by simp) ?_
  simp only [argT, PV.av, List.map_cons, List.map_nil]
  repeat' (first | refine p_ rfl rfl rfl rfl rfl ?_ | refine st_nil ?_ | refine x_ rfl rfl rfl rfl rfl rfl rfl rfl ?_ | refine l_ rfl rfl rfl rfl ?_ | refine s_ rfl rfl rfl ?_ | refine t5_ rfl rfl rfl rfl ?_ | refine k_ rfl rfl rfl ?_ | refine k0_ rfl rfl ?_ | refine c_ rfl rfl rfl rfl ?_ | refine pick_t rfl rfl rfl rfl rfl rfl rfl ?_ | refine pick_f rfl rfl rfl rfl rfl rfl rfl ?_ | refine aw_seq ?_ | refine aw_region tab_ok _ rfl ?_ | refine aw_drawn2 tabS_ok _ rfl mixed (by decide +kernel) ?_ | refine aw_condT rfl ?_ | refine aw_condF rfl ?_ | refine aw_block ?_ | refine aw_exit ?_ | refine aw_ret ?_ | refine aw_skip ?_ | rw [List.length_map] | rw [mn_norm] | rw [mx_norm] | refine b_ rfl rfl rfl rfl rfl rfl rfl ?_)
  refine aw_loopM (fun s : Int => match s with | v_1 => [(0, .one (.c (.str a_s))), (5, .one (.c (.int .i64 ((a_s.size : Nat) : Int)))), (6, .one (.c (.int .i64 v_1)))]) (fun s => match s with | v_1 => []) H (fun _ => Nat.zero_le _)
    (fits_mk ⟨rfl, rfl, rfl, trivial⟩ [] rfl ⟨trivial, trivial, trivial, trivial⟩ trivial) ?_
  rintro v_1 st1 hb1 hk1
  unfold gPrintableP_B1 at hb1
  dsimp only at hb1 ⊢
  rcases Bool.eq_false_or_eq_true (decide (v_1 < ((a_s.size : Nat) : Int))) with q_2 | q_2
  · rw [q_2, cond_true] at hb1
    obtain ⟨b_3, i1, hb1⟩ := bind_some hb1
    obtain ⟨i1z, i1⟩ := getB_some i1
    rcases Bool.eq_false_or_eq_true (decide (((b_3.toNat : Nat) : Int) < (32 : Int))) with q_4 | q_4
    · rw [q_4, cond_true] at hb1
      obtain rfl := Option.some.inj hb1
      have hx1 : gPrintableP_K1 (.inr false) = some _ := hk1
      unfold gPrintableP_K1 at hx1
      dsimp only at hx1
      obtain rfl := Option.some.inj hx1
      repeat' (first | refine p_ rfl rfl rfl rfl rfl ?_ | refine st_nil ?_ | refine x_ rfl rfl rfl rfl rfl rfl rfl rfl ?_ | refine l_ rfl rfl rfl rfl ?_ | refine s_ rfl rfl rfl ?_ | refine t5_ rfl rfl rfl rfl ?_ | refine k_ rfl rfl rfl ?_ | refine k0_ rfl rfl ?_ | refine c_ rfl rfl rfl rfl ?_ | refine pick_t rfl rfl rfl rfl rfl rfl rfl ?_ | refine pick_f rfl rfl rfl rfl rfl rfl rfl ?_ | refine aw_seq ?_ | refine aw_region tab_ok _ rfl ?_ | refine aw_drawn2 tabS_ok _ rfl mixed (by decide +kernel) ?_ | refine aw_condT rfl ?_ | refine aw_condF rfl ?_ | refine aw_block ?_ | refine aw_exit ?_ | refine aw_ret ?_ | refine aw_skip ?_ | rw [List.length_map] | rw [mn_norm] | rw [mx_norm] | refine b_ rfl rfl rfl rfl rfl rfl rfl ?_)
      refine end_ret (res_of rfl ?_ ?_)
      · repeat' (first | exact trivial | rfl | exact Nat.le_of_ble_eq_true rfl | omega | apply And.intro)
      · first | rfl | (simp only [List.map_append, List.map_cons, List.map_nil, List.nil_append] <;> rfl)
    · rw [q_4, cond_false] at hb1
      rcases Bool.eq_false_or_eq_true (decide ((126 : Int) < ((b_3.toNat : Nat) : Int))) with q_5 | q_5
      · rw [q_5, cond_true] at hb1
        obtain rfl := Option.some.inj hb1
        have hx1 : gPrintableP_K1 (.inr false) = some _ := hk1
        unfold gPrintableP_K1 at hx1
        dsimp only at hx1
        obtain rfl := Option.some.inj hx1
        repeat' (first | refine p_ rfl rfl rfl rfl rfl ?_ | refine st_nil ?_ | refine x_ rfl rfl rfl rfl rfl rfl rfl rfl ?_ | refine l_ rfl rfl rfl rfl ?_ | refine s_ rfl rfl rfl ?_ | refine t5_ rfl rfl rfl rfl ?_ | refine k_ rfl rfl rfl ?_ | refine k0_ rfl rfl ?_ | refine c_ rfl rfl rfl rfl ?_ | refine pick_t rfl rfl rfl rfl rfl rfl rfl ?_ | refine pick_f rfl rfl rfl rfl rfl rfl rfl ?_ | refine aw_seq ?_ | refine aw_region tab_ok _ rfl ?_ | refine aw_drawn2 tabS_ok _ rfl mixed (by decide +kernel) ?_ | refine aw_condT rfl ?_ | refine aw_condF rfl ?_ | refine aw_block ?_ | refine aw_exit ?_ | refine aw_ret ?_ | refine aw_skip ?_ | rw [List.length_map] | rw [mn_norm] | rw [mx_norm] | refine b_ rfl rfl rfl rfl rfl rfl rfl ?_)
        refine end_ret (res_of rfl ?_ ?_)
        · repeat' (first | exact trivial | rfl | exact Nat.le_of_ble_eq_true rfl | omega | apply And.intro)
        · first | rfl | (simp only [List.map_append, List.map_cons, List.map_nil, List.nil_append] <;> rfl)
      · rw [q_5, cond_false] at hb1
        obtain rfl := Option.some.inj hb1
        repeat' (first | refine p_ rfl rfl rfl rfl rfl ?_ | refine st_nil ?_ | refine x_ rfl rfl rfl rfl rfl rfl rfl rfl ?_ | refine l_ rfl rfl rfl rfl ?_ | refine s_ rfl rfl rfl ?_ | refine t5_ rfl rfl rfl rfl ?_ | refine k_ rfl rfl rfl ?_ | refine k0_ rfl rfl ?_ | refine c_ rfl rfl rfl rfl ?_ | refine pick_t rfl rfl rfl rfl rfl rfl rfl ?_ | refine pick_f rfl rfl rfl rfl rfl rfl rfl ?_ | refine aw_seq ?_ | refine aw_region tab_ok _ rfl ?_ | refine aw_drawn2 tabS_ok _ rfl mixed (by decide +kernel) ?_ | refine aw_condT rfl ?_ | refine aw_condF rfl ?_ | refine aw_block ?_ | refine aw_exit ?_ | refine aw_ret ?_ | refine aw_skip ?_ | rw [List.length_map] | rw [mn_norm] | rw [mx_norm] | refine b_ rfl rfl rfl rfl rfl rfl rfl ?_)
        exact ⟨_, rfl, fits_mk ⟨rfl, rfl, rfl, trivial⟩ [] rfl ⟨trivial, trivial, trivial, trivial⟩ trivial⟩
  · rw [q_2, cond_false] at hb1
    obtain rfl := Option.some.inj hb1
    have hx1 : gPrintableP_K1 (.inl v_1) = some _ := hk1
    unfold gPrintableP_K1 at hx1
    dsimp only at hx1
    obtain rfl := Option.some.inj hx1
    exact go_
def gValidP (a_v : Val) : Option (Bool) := bif (decide (a_v.kind = (0 : Int))) then
  bif (decide (a_v.int = (0 : Int))) then
    some (a_v.text.toList == (⟨#[]⟩ : ByteArray).toList)
  else
    some false
 else
  bif (decide (a_v.kind = (1 : Int))) then
    bif (a_v.text.toList == (⟨#[]⟩ : ByteArray).toList) then
      bif (decide ((-1125899906842624 : Int) ≤ a_v.int)) then
        some (decide (a_v.int ≤ (1125899906842624 : Int)))
      else
        some false
    else
      some false
  else
    bif (decide (a_v.kind = (2 : Int))) then
      bif (decide (a_v.int = (0 : Int))) then
        bif (decide (((a_v.text.size : Nat) : Int) ≤ (200 : Int))) then
          (gPrintableP a_v.text).bind fun r_9 => some r_9
        else
          some false
      else
        some false
    else
      bif (decide (a_v.kind = (3 : Int))) then
        bif (a_v.text.toList == (⟨#[]⟩ : ByteArray).toList) then
          bif (decide (a_v.int = (0 : Int))) then
            some true
          else
            some (decide (a_v.int = (1 : Int)))
        else
          some false
      else
        some false
theorem gValidP_ok {a_v : Val} {r : Bool} (H : gValidP a_v = some r) : Pure Tryz.prog 148 [.agg (cV a_v)] (.val (.one (.bool r))) := by
  unfold gValidP at H
  refine pure_of_aw tab_ok Tryz.func148 rfl rfl Tryz.ntmps148 (by simp) ?_
  simp only [argT, PV.av, List.map_cons, List.map_nil]
  rcases Bool.eq_false_or_eq_true (decide (a_v.kind = (0 : Int))) with q_1 | q_1
  · rw [q_1, cond_true] at H
    rcases Bool.eq_false_or_eq_true (decide (a_v.int = (0 : Int))) with q_2 | q_2
    · rw [q_2, cond_true] at H
      obtain rfl := Option.some.inj H
      exact go_
    · rw [q_2, cond_false] at H
      obtain rfl := Option.some.inj H
      exact go_
  · rw [q_1, cond_false] at H
    rcases Bool.eq_false_or_eq_true (decide (a_v.kind = (1 : Int))) with q_3 | q_3
    · rw [q_3, cond_true] at H
      rcases Bool.eq_false_or_eq_true (a_v.text.toList == (⟨#[]⟩ : ByteArray).toList) with q_4 | q_4
      · rw [q_4, cond_true] at H
        rcases Bool.eq_false_or_eq_true (decide ((-1125899906842624 : Int) ≤ a_v.int)) with q_5 | q_5
        · rw [q_5, cond_true] at H
          obtain rfl := Option.some.inj H
          exact go_
        · rw [q_5, cond_false] at H
          obtain rfl := Option.some.inj H
          exact go_
      · rw [q_4, cond_false] at H
        obtain rfl := Option.some.inj H
        exact go_
    · rw [q_3, cond_false] at H
      rcases Bool.eq_false_or_eq_true (decide (a_v.kind = (2 : Int))) with q_6 | q_6
      · rw [q_6, cond_true] at H
        rcases Bool.eq_false_or_eq_true (decide (a_v.int = (0 : Int))) with q_7 | q_7
        · rw [q_7, cond_true] at H
          rcases Bool.eq_false_or_eq_true (decide (((a_v.text.size : Nat) : Int) ≤ (200 : Int))) with q_8 | q_8
          · rw [q_8, cond_true] at H
            obtain ⟨r_9, c1, H⟩ := bind_some H
            replace c1 := gPrintableP_ok c1
            try simp only [List.map_append, List.map_cons, List.map_nil, List.nil_append, tE_eq, tP_eq] at c1
            obtain rfl := Option.some.inj H
            exact go_
          · rw [q_8, cond_false] at H
            obtain rfl := Option.some.inj H
            exact go_
        · rw [q_7, cond_false] at H
          obtain rfl := Option.some.inj H
          exact go_
      · rw [q_6, cond_false] at H
        rcases Bool.eq_false_or_eq_true (decide (a_v.kind = (3 : Int))) with q_10 | q_10
        · rw [q_10, cond_true] at H
          rcases Bool.eq_false_or_eq_true (a_v.text.toList == (⟨#[]⟩ : ByteArray).toList) with q_11 | q_11
          · rw [q_11, cond_true] at H
            rcases Bool.eq_false_or_eq_true (decide (a_v.int = (0 : Int))) with q_12 | q_12
            · rw [q_12, cond_true] at H
              obtain rfl := Option.some.inj H
              exact go_
            · rw [q_12, cond_false] at H
              obtain rfl := Option.some.inj H
              exact go_
          · rw [q_11, cond_false] at H
            obtain rfl := Option.some.inj H
            exact go_
        · rw [q_10, cond_false] at H
          obtain rfl := Option.some.inj H
          exact go_
def gOrNull (a_v : Val) : Option (Val) := (gValidP a_v).bind fun r_1 => bif (!r_1) then
  (gNull ).bind fun r_3 => some r_3
 else
  some a_v
theorem gOrNull_ok {a_v : Val} {r : Val} (H : gOrNull a_v = some r) : Pure Tryz.prog 104 [.agg (cV a_v)] (.val (.agg (cV r))) := by
  unfold gOrNull at H
  refine pure_of_aw tab_ok Tryz.func104 rfl rfl Tryz.ntmps104 (by simp) ?_
  simp only [argT, PV.av, List.map_cons, List.map_nil]
  obtain ⟨r_1, c1, H⟩ := bind_some H
  replace c1 := gValidP_ok c1
  try simp only [List.map_append, List.map_cons, List.map_nil, List.nil_append, tE_eq, tP_eq] at c1
  rcases Bool.eq_false_or_eq_true (!r_1) with q_2 | q_2
  · rw [q_2, cond_true] at H
    obtain ⟨r_3, c2, H⟩ := bind_some H
    replace c2 := gNull_ok c2
    try simp only [List.map_append, List.map_cons, List.map_nil, List.nil_append, tE_eq, tP_eq] at c2
    obtain rfl := Option.some.inj H
    exact go_
  · rw [q_2, cond_false] at H
    obtain rfl := Option.some.inj H
    exact go_
def gIntP (a_n : Int) : Option (Val) := (gOrNull (⟨(1 : Int), a_n, ByteArray.empty⟩ : Val)).bind fun r_1 => some r_1
theorem gIntP_ok {a_n : Int} {r : Val} (H : gIntP a_n = some r) : Pure Tryz.prog 79 [.one (.int .i64 a_n)] (.val (.agg (cV r))) := by
  unfold gIntP at H
  refine pure_of_aw tab_ok Tryz.func79 rfl rfl Tryz.ntmps79 (by simp) ?_
  simp only [argT, PV.av, List.map_cons, List.map_nil]
  obtain ⟨r_1, c1, H⟩ := bind_some H
  replace c1 := gOrNull_ok c1
  try simp only [List.map_append, List.map_cons, List.map_nil, List.nil_append, tE_eq, tP_eq] at c1
  obtain rfl := Option.some.inj H
  exact go_
def gExt_B1 (a_l : (List Int)) : ((List Val) × Int) → Option (Step ((List Val) × Int) ((List Val))) := fun s => match s with
  | (out_1, v_2) => bif (decide (v_2 < ((a_l.length : Nat) : Int))) then
    (getI a_l v_2).bind fun x_4 => (gIntP x_4).bind fun r_5 => bif (decide (out_1.length + 1 ≤ 4398046511104)) then (some (.next ((out_1 ++ [r_5]), (IntKind.i64.wrap (v_2 + (1 : Int)))))) else none
  else
    some (.exit (out_1, v_2))
def gExt_K1 : Sum ((List Val) × Int) ((List Val)) → Option (((List Val)))
  | .inl (out_1, v_2) => some out_1
  | .inr q => some q
def gExt (a_row : (List Val)) (a_l : (List Int)) : Option ((List Val)) := bif (decide (a_row.length ≤ 4398046511104)) then ((loopM (gExt_B1 a_l) fuel (a_row, (0 : Int))).bind (gExt_K1)) else none
theorem gExt_ok {a_row : (List Val)} {a_l : (List Int)} {r : (List Val)} (H : gExt a_row a_l = some r) : Pure Tryz.prog 50 [.one (.lst (a_row.map cV)), .one (.lst (a_l.map (fun x => [AC.int .i64 x])))] (.val (.one (.lst (r.map cV)))) := by
  unfold gExt at H
  refine pure_of_aw tab_ok Tryz.func50 rfl rfl Tryz.ntmps50 (by simp) ?_
  simp only [argT, PV.av, List.map_cons, List.map_nil]
  obtain ⟨g1, H⟩ := grd_some H
  replace g1 := of_decide_eq_true g1
  repeat' (first | refine p_ rfl rfl rfl rfl rfl ?_ | refine st_nil ?_ | refine x_ rfl rfl rfl rfl rfl rfl rfl rfl ?_ | refine l_ rfl rfl rfl rfl ?_ | refine s_ rfl rfl rfl ?_ | refine t_ rfl rfl rfl rfl ?_ | refine k_ rfl rfl rfl ?_ | refine k0_ rfl rfl ?_ | refine c_ rfl rfl rfl rfl ?_ | refine pick_t rfl rfl rfl rfl rfl rfl rfl ?_ | refine pick_f rfl rfl rfl rfl rfl rfl rfl ?_ | refine aw_seq ?_ | refine aw_region tab_ok _ rfl ?_ | refine aw_drawn2 tabS_ok _ rfl mixed (by decide +kernel) ?_ | refine aw_condT rfl ?_ | refine aw_condF rfl ?_ | refine aw_block ?_ | refine aw_exit ?_ | refine aw_ret ?_ | refine aw_skip ?_ | rw [List.length_map] | rw [mn_norm] | rw [mx_norm])
  refine aw_loopM (fun s : (List Val) × Int => match s with | (out_1, v_2) => [(5, .one (.own (out_1.map cV) 0)), (11, .one (.c (.lst (a_l.map (fun x => [AC.int .i64 x]))))), (12, .one (.c (.int .i64 ((a_l.length : Nat) : Int)))), (13, .one (.c (.int .i64 v_2)))]) (fun s => match s with | (out_1, v_2) => [.spare out_1.length 3]) H (fun _ => Nat.zero_le _)
    (fits_mk ⟨rfl, rfl, rfl, rfl, trivial⟩ [] rfl ⟨by show 0 < 1; omega, trivial, trivial, trivial, trivial⟩ ⟨trivial, trivial⟩) ?_
  rintro ⟨out_1, v_2⟩ st1 hb1 hk1
  unfold gExt_B1 at hb1
  dsimp only at hb1 ⊢
  rcases Bool.eq_false_or_eq_true (decide (v_2 < ((a_l.length : Nat) : Int))) with q_3 | q_3
  · rw [q_3, cond_true] at hb1
    obtain ⟨x_4, i2, hb1⟩ := bind_some hb1
    obtain ⟨i2z, i2⟩ := getI_some i2
    have i2x := idxI (f := (fun x => [AC.int .i64 x])) i2
    obtain ⟨r_5, c3, hb1⟩ := bind_some hb1
    replace c3 := gIntP_ok c3
    try simp only [List.map_append, List.map_cons, List.map_nil, List.nil_append, tE_eq, tP_eq] at c3
    obtain ⟨g4, hb1⟩ := grd_some hb1
    replace g4 := of_decide_eq_true g4
    obtain rfl := Option.some.inj hb1
    repeat' (first | refine p_ rfl rfl rfl rfl rfl ?_ | refine st_nil ?_ | refine x_ rfl rfl rfl rfl rfl rfl rfl rfl ?_ | refine l_ rfl rfl rfl rfl ?_ | refine s_ rfl rfl rfl ?_ | refine t_ rfl rfl rfl rfl ?_ | refine k_ rfl rfl rfl ?_ | refine k0_ rfl rfl ?_ | refine c_ rfl rfl rfl rfl ?_ | refine pick_t rfl rfl rfl rfl rfl rfl rfl ?_ | refine pick_f rfl rfl rfl rfl rfl rfl rfl ?_ | refine aw_seq ?_ | refine aw_region tab_ok _ rfl ?_ | refine aw_drawn2 tabS_ok _ rfl mixed (by decide +kernel) ?_ | refine aw_condT rfl ?_ | refine aw_condF rfl ?_ | refine aw_block ?_ | refine aw_exit ?_ | refine aw_ret ?_ | refine aw_skip ?_ | rw [List.length_map] | rw [mn_norm] | rw [mx_norm])
    exact ⟨_, rfl, fits_mk ⟨(by simp only [List.map_append, List.map_cons, List.map_nil, List.nil_append] <;> rfl), rfl, rfl, rfl, trivial⟩ [] (by simp only [List.length_append, List.length_cons, List.length_nil, Nat.zero_add, List.map_append, List.map_cons, List.map_nil] <;> rfl) ⟨by show 0 < 1; omega, trivial, trivial, trivial, trivial⟩ ⟨trivial, trivial⟩⟩
  · rw [q_3, cond_false] at hb1
    obtain rfl := Option.some.inj hb1
    have hx1 : gExt_K1 (.inl (out_1, v_2)) = some _ := hk1
    unfold gExt_K1 at hx1
    dsimp only at hx1
    obtain rfl := Option.some.inj hx1
    repeat' (first | refine p_ rfl rfl rfl rfl rfl ?_ | refine st_nil ?_ | refine x_ rfl rfl rfl rfl rfl rfl rfl rfl ?_ | refine l_ rfl rfl rfl rfl ?_ | refine s_ rfl rfl rfl ?_ | refine t_ rfl rfl rfl rfl ?_ | refine k_ rfl rfl rfl ?_ | refine k0_ rfl rfl ?_ | refine c_ rfl rfl rfl rfl ?_ | refine pick_t rfl rfl rfl rfl rfl rfl rfl ?_ | refine pick_f rfl rfl rfl rfl rfl rfl rfl ?_ | refine aw_seq ?_ | refine aw_region tab_ok _ rfl ?_ | refine aw_drawn2 tabS_ok _ rfl mixed (by decide +kernel) ?_ | refine aw_condT rfl ?_ | refine aw_condF rfl ?_ | refine aw_block ?_ | refine aw_exit ?_ | refine aw_ret ?_ | refine aw_skip ?_ | rw [List.length_map] | rw [mn_norm] | rw [mx_norm])
    refine end_ret (res_of rfl ?_ ?_)
    · repeat' (first | exact trivial | rfl | exact Nat.le_of_ble_eq_true rfl | omega | apply And.intro)
    · first | rfl | (simp only [List.map_append, List.map_cons, List.map_nil, List.nil_append] <;> rfl)
end Go.Proofs.YtnbnpnmkgemdeaaGreatDoor
namespace Go.Proofs.YtnbnpnmkgemdeaaGreatDoor
open Go.RowKit Go.MapKept
set_option maxRecDepth 100000
set_option maxHeartbeats 8000000
set_option linter.unusedVariables false
set_option linter.unusedSimpArgs false
theorem tcmp_row (a b : List Val) : tcmp (tRow a) (tRow b) = rcmp a b := by
  show rcmp ((a.map cV).map vOf) ((b.map cV).map vOf) = _
  rw [vOf_cV, vOf_cV]
theorem posF_row (B : List (List Val)) (x : List Val) : ∀ j, posF tcmp (B.map tRow) (tRow x) j = posV B x j
  | 0 => rfl
  | j + 1 => by
    rw [posF, posV, List.getElem?_map]
    cases B[j]? with
    | none => rfl
    | some y =>
      simp only [Option.map_some]
      rw [tcmp_row, posF_row B x j]
theorem insR_row (B : List (List Val)) (x : List Val) : insR tcmp (B.map tRow) (tRow x) = (insV B x).map tRow := by
  unfold insR insV
  rw [List.length_map, posF_row, List.map_append, List.map_cons, List.map_take, List.map_drop]
theorem foldl_row : ∀ (l B : List (List Val)), (l.map tRow).foldl (insR tcmp) (B.map tRow) = (l.foldl insV B).map tRow
  | [], _ => rfl
  | x :: l, B => by rw [List.map_cons, List.foldl_cons, List.foldl_cons, insR_row, foldl_row l]
theorem isort_row (l : List (List Val)) : isort tcmp (l.map tRow) = (sortV l).map tRow := foldl_row l []
def sortable (l : List (List Val)) : Bool := decide (l.length ≤ 19) && l.all fun r => !r.isEmpty && decide (r.length ≤ 1000000)
def gSort (l : List (List Val)) : Option (List (List Val)) := bif sortable l then some (sortV l) else none
theorem gSort_ok {l r : List (List Val)} (H : gSort l = some r) : Pure Tryz.prog 51 [.one (.lst (l.map (fun x => [AC.lst (x.map cV)])))] (.val (.one (.lst (r.map (fun x => [AC.lst (x.map cV)]))))) := by
  unfold gSort at H
  cases hs : sortable l with
  | false => rw [hs] at H; cases H
  | true =>
    rw [hs, cond_true] at H
    obtain rfl := Option.some.inj H
    unfold sortable at hs
    rw [Bool.and_eq_true, List.all_eq_true] at hs
    have h1 := of_decide_eq_true hs.1
    have h2 : ∀ r ∈ l, r ≠ [] ∧ r.length ≤ 1000000 := by
      intro r hr
      have := hs.2 r hr
      rw [Bool.and_eq_true] at this
      refine ⟨?_, of_decide_eq_true this.2⟩
      rintro rfl
      exact absurd this.1 (by decide)
    have k := sorted_pure 81 tcmp l h1 h2 (by
      intro x y hx hy
      obtain ⟨a, ha, rfl⟩ := List.mem_map.1 hx
      obtain ⟨b, hb, rfl⟩ := List.mem_map.1 hy
      have la := (h2 a ha).2
      have lb := (h2 b hb).2
      rw [tcmp_row]
      exact gTCmp_ok (gTCmp_eq a b (by omega) (by omega)))
    rw [isort_row, List.map_map] at k
    replace k : Pure Tryz.prog 80 [.one (.lst (l.map (fun x => [AC.lst (x.map cV)]))), .one (.fn 81 [])] (.val (.one (.lst ((sortV l).map (fun x => [AC.lst (x.map cV)]))))) := k
    refine pure_of_aw tab_ok Tryz.func51 rfl rfl Tryz.ntmps51 (by simp) ?_
    simp only [argT, PV.av, List.map_cons, List.map_nil]
    exact go_
def gRows_B2 (a_l : (List Ver)) : ((List (List Val)) × Int) → Option (Step ((List (List Val)) × Int) (Bag)) := fun s => match s with
  | (c_4, v_5) => bif (decide (v_5 < ((a_l.length : Nat) : Int))) then
    (getI a_l v_5).bind fun x_7 => (gExt x_7.row [x_7.valid.lo, x_7.valid.hi, x_7.system.lo, x_7.system.hi, x_7.by_]).bind fun r_8 => bif (decide (c_4.length + 1 ≤ 5864062014805)) then (some (.next ((c_4 ++ [r_8]), (IntKind.i64.wrap (v_5 + (1 : Int)))))) else none
  else
    some (.exit (c_4, v_5))
def gRows_K2 (c_1 : (List Int)) : Sum ((List (List Val)) × Int) (Bag) → Option ((Bag))
  | .inl (c_4, v_5) => (gSort c_4).bind fun r_9 => some (⟨c_1, r_9⟩ : Bag)
  | .inr q => some q
def gRows_B1 : ((List Int) × Int) → Option (Step ((List Int) × Int) (Bag)) := fun s => match s with
  | (c_1, v_2) => bif (decide (v_2 < (5 : Int))) then
    bif (decide (c_1.length + 1 ≤ 17592186044416)) then (some (.next ((c_1 ++ [(1 : Int)]), (IntKind.i64.wrap (v_2 + (1 : Int)))))) else none
  else
    some (.exit (c_1, v_2))
def gRows_K1 (a_l : (List Ver)) : Sum ((List Int) × Int) (Bag) → Option ((Bag))
  | .inl (c_1, v_2) => (loopM (gRows_B2 a_l) fuel ([], (0 : Int))).bind (gRows_K2 c_1)
  | .inr q => some q
def gRows (a_kinds : (List Int)) (a_l : (List Ver)) : Option (Bag) := bif (decide (a_kinds.length ≤ 17592186044416)) then ((loopM (gRows_B1) fuel (a_kinds, (0 : Int))).bind (gRows_K1 a_l)) else none
theorem gRows_ok {a_kinds : (List Int)} {a_l : (List Ver)} {r : Bag} (H : gRows a_kinds a_l = some r) : Pure Tryz.prog 22 [.one (.lst (a_kinds.map (fun x => [AC.int .i64 x]))), .one (.lst (a_l.map cVer))] (.val (.agg (cBag r))) := by
  unfold gRows at H
  refine pure_of_aw tab_ok Tryz.func22 rfl rfl Tryz.ntmps22 (by simp) ?_
  simp only [argT, PV.av, List.map_cons, List.map_nil]
  obtain ⟨g1, H⟩ := grd_some H
  replace g1 := of_decide_eq_true g1
  repeat' (first | refine p_ rfl rfl rfl rfl rfl ?_ | refine st_nil ?_ | refine x_ rfl rfl rfl rfl rfl rfl rfl rfl ?_ | refine l_ rfl rfl rfl rfl ?_ | refine s_ rfl rfl rfl ?_ | refine t5_ rfl rfl rfl rfl ?_ | refine k_ rfl rfl rfl ?_ | refine k0_ rfl rfl ?_ | refine c_ rfl rfl rfl rfl ?_ | refine pick_t rfl rfl rfl rfl rfl rfl rfl ?_ | refine pick_f rfl rfl rfl rfl rfl rfl rfl ?_ | refine aw_seq ?_ | refine aw_region tab_ok _ rfl ?_ | refine aw_drawn2 tabS_ok _ rfl mixed (by decide +kernel) ?_ | refine aw_condT rfl ?_ | refine aw_condF rfl ?_ | refine aw_block ?_ | refine aw_exit ?_ | refine aw_ret ?_ | refine aw_skip ?_ | rw [List.length_map] | rw [mn_norm] | rw [mx_norm] | refine b_ rfl rfl rfl rfl rfl rfl rfl ?_)
  refine aw_loopM (fun s : (List Int) × Int => match s with | (c_1, v_2) => [(1, .one (.c (.lst (a_l.map cVer)))), (4, .one (.ptr 0 0)), (5, .one (.ptr 2 0)), (12, .one (.c (.int .i64 v_2)))]) (fun s => match s with | (c_1, v_2) => [.box [.emp, .emp], .spare c_1.length 1, .box [.own (c_1.map (fun x => [AC.int .i64 x])) 1, .emp]]) H (fun _ => Nat.zero_le _)
    (fits_mk ⟨rfl, rfl, rfl, rfl, trivial⟩ [] rfl ⟨trivial, by show 0 < 3; omega, by show 2 < 3; omega, trivial, trivial⟩ ⟨ob_below (by rfl), trivial, ob_below (by rfl), trivial⟩) ?_
  rintro ⟨c_1, v_2⟩ st1 hb1 hk1
  unfold gRows_B1 at hb1
  dsimp only at hb1 ⊢
  rcases Bool.eq_false_or_eq_true (decide (v_2 < (5 : Int))) with q_3 | q_3
  · rw [q_3, cond_true] at hb1
    obtain ⟨g2, hb1⟩ := grd_some hb1
    replace g2 := of_decide_eq_true g2
    obtain rfl := Option.some.inj hb1
    repeat' (first | refine p_ rfl rfl rfl rfl rfl ?_ | refine st_nil ?_ | refine x_ rfl rfl rfl rfl rfl rfl rfl rfl ?_ | refine l_ rfl rfl rfl rfl ?_ | refine s_ rfl rfl rfl ?_ | refine t5_ rfl rfl rfl rfl ?_ | refine k_ rfl rfl rfl ?_ | refine k0_ rfl rfl ?_ | refine c_ rfl rfl rfl rfl ?_ | refine pick_t rfl rfl rfl rfl rfl rfl rfl ?_ | refine pick_f rfl rfl rfl rfl rfl rfl rfl ?_ | refine aw_seq ?_ | refine aw_region tab_ok _ rfl ?_ | refine aw_drawn2 tabS_ok _ rfl mixed (by decide +kernel) ?_ | refine aw_condT rfl ?_ | refine aw_condF rfl ?_ | refine aw_block ?_ | refine aw_exit ?_ | refine aw_ret ?_ | refine aw_skip ?_ | rw [List.length_map] | rw [mn_norm] | rw [mx_norm] | refine b_ rfl rfl rfl rfl rfl rfl rfl ?_)
    exact ⟨_, rfl, fits_mk ⟨rfl, rfl, rfl, rfl, trivial⟩ [] (by simp only [List.length_append, List.length_cons, List.length_nil, Nat.zero_add, List.map_append, List.map_cons, List.map_nil] <;> rfl) ⟨trivial, by show 0 < 3; omega, by show 2 < 3; omega, trivial, trivial⟩ ⟨ob_below (by rfl), trivial, ob_below (by rfl), trivial⟩⟩
  · rw [q_3, cond_false] at hb1
    obtain rfl := Option.some.inj hb1
    have hx1 : gRows_K1 a_l (.inl (c_1, v_2)) = some _ := hk1
    unfold gRows_K1 at hx1
    dsimp only at hx1
    repeat' (first | refine p_ rfl rfl rfl rfl rfl ?_ | refine st_nil ?_ | refine x_ rfl rfl rfl rfl rfl rfl rfl rfl ?_ | refine l_ rfl rfl rfl rfl ?_ | refine s_ rfl rfl rfl ?_ | refine t5_ rfl rfl rfl rfl ?_ | refine k_ rfl rfl rfl ?_ | refine k0_ rfl rfl ?_ | refine c_ rfl rfl rfl rfl ?_ | refine pick_t rfl rfl rfl rfl rfl rfl rfl ?_ | refine pick_f rfl rfl rfl rfl rfl rfl rfl ?_ | refine aw_seq ?_ | refine aw_region tab_ok _ rfl ?_ | refine aw_drawn2 tabS_ok _ rfl mixed (by decide +kernel) ?_ | refine aw_condT rfl ?_ | refine aw_condF rfl ?_ | refine aw_block ?_ | refine aw_exit ?_ | refine aw_ret ?_ | refine aw_skip ?_ | rw [List.length_map] | rw [mn_norm] | rw [mx_norm] | refine b_ rfl rfl rfl rfl rfl rfl rfl ?_)
    refine aw_tokBox 2 1 1 rfl rfl ?_
    refine aw_loopM (fun s : (List (List Val)) × Int => match s with | (c_4, v_5) => [(4, .one (.ptr 0 0)), (5, .one (.ptr 2 0)), (20, .one (.c (.lst (a_l.map cVer)))), (21, .one (.c (.int .i64 ((a_l.length : Nat) : Int)))), (22, .one (.c (.int .i64 v_5)))]) (fun s => match s with | (c_4, v_5) => [.box [.emp, .emp], .spare c_1.length 1, .box [.own (c_1.map (fun x => [AC.int .i64 x])) 1, .own (c_4.map (fun x => [AC.lst (x.map cV)])) 3], .spare c_4.length 1]) hx1 (fun _ => Nat.zero_le _)
      (fits_mk ⟨rfl, rfl, rfl, rfl, rfl, trivial⟩ [] rfl ⟨by show 0 < 4; omega, by show 2 < 4; omega, trivial, trivial, trivial, trivial⟩ ⟨ob_below (by rfl), trivial, ob_below (by rfl), trivial, trivial⟩) ?_
    rintro ⟨c_4, v_5⟩ st2 hb2 hk2
    unfold gRows_B2 at hb2
    dsimp only at hb2 ⊢
    rcases Bool.eq_false_or_eq_true (decide (v_5 < ((a_l.length : Nat) : Int))) with q_6 | q_6
    · rw [q_6, cond_true] at hb2
      obtain ⟨x_7, i3, hb2⟩ := bind_some hb2
      obtain ⟨i3z, i3⟩ := getI_some i3
      have i3x := idxI (f := cVer) i3
      obtain ⟨r_8, c4, hb2⟩ := bind_some hb2
      replace c4 := gExt_ok c4
      try simp only [List.map_append, List.map_cons, List.map_nil, List.nil_append, tE_eq, tP_eq] at c4
      obtain ⟨g5, hb2⟩ := grd_some hb2
      replace g5 := of_decide_eq_true g5
      obtain rfl := Option.some.inj hb2
      repeat' (first | refine p_ rfl rfl rfl rfl rfl ?_ | refine st_nil ?_ | refine x_ rfl rfl rfl rfl rfl rfl rfl rfl ?_ | refine l_ rfl rfl rfl rfl ?_ | refine s_ rfl rfl rfl ?_ | refine t5_ rfl rfl rfl rfl ?_ | refine k_ rfl rfl rfl ?_ | refine k0_ rfl rfl ?_ | refine c_ rfl rfl rfl rfl ?_ | refine pick_t rfl rfl rfl rfl rfl rfl rfl ?_ | refine pick_f rfl rfl rfl rfl rfl rfl rfl ?_ | refine aw_seq ?_ | refine aw_region tab_ok _ rfl ?_ | refine aw_drawn2 tabS_ok _ rfl mixed (by decide +kernel) ?_ | refine aw_condT rfl ?_ | refine aw_condF rfl ?_ | refine aw_block ?_ | refine aw_exit ?_ | refine aw_ret ?_ | refine aw_skip ?_ | rw [List.length_map] | rw [mn_norm] | rw [mx_norm] | refine b_ rfl rfl rfl rfl rfl rfl rfl ?_)
      exact ⟨_, rfl, fits_mk ⟨rfl, rfl, rfl, rfl, rfl, trivial⟩ [_] (by simp only [List.length_append, List.length_cons, List.length_nil, Nat.zero_add, List.map_append, List.map_cons, List.map_nil] <;> rfl) ⟨by show 0 < 4; omega, by show 2 < 4; omega, trivial, trivial, trivial, trivial⟩ ⟨ob_below (by rfl), trivial, ob_below (by rfl), trivial, trivial⟩⟩
    · rw [q_6, cond_false] at hb2
      obtain rfl := Option.some.inj hb2
      have hx2 : gRows_K2 c_1 (.inl (c_4, v_5)) = some _ := hk2
      unfold gRows_K2 at hx2
      dsimp only at hx2
      obtain ⟨r_9, c6, hx2⟩ := bind_some hx2
      replace c6 := gSort_ok c6
      try simp only [List.map_append, List.map_cons, List.map_nil, List.nil_append, tE_eq, tP_eq] at c6
      obtain rfl := Option.some.inj hx2
      repeat' (first | refine p_ rfl rfl rfl rfl rfl ?_ | refine st_nil ?_ | refine x_ rfl rfl rfl rfl rfl rfl rfl rfl ?_ | refine l_ rfl rfl rfl rfl ?_ | refine s_ rfl rfl rfl ?_ | refine t5_ rfl rfl rfl rfl ?_ | refine k_ rfl rfl rfl ?_ | refine k0_ rfl rfl ?_ | refine c_ rfl rfl rfl rfl ?_ | refine pick_t rfl rfl rfl rfl rfl rfl rfl ?_ | refine pick_f rfl rfl rfl rfl rfl rfl rfl ?_ | refine aw_seq ?_ | refine aw_region tab_ok _ rfl ?_ | refine aw_drawn2 tabS_ok _ rfl mixed (by decide +kernel) ?_ | refine aw_condT rfl ?_ | refine aw_condF rfl ?_ | refine aw_block ?_ | refine aw_exit ?_ | refine aw_ret ?_ | refine aw_skip ?_ | rw [List.length_map] | rw [mn_norm] | rw [mx_norm] | refine b_ rfl rfl rfl rfl rfl rfl rfl ?_)
      refine end_ret (res_of rfl ?_ ?_)
      · repeat' (first | exact trivial | rfl | exact Nat.le_of_ble_eq_true rfl | omega | apply And.intro)
      · first | rfl | (simp only [List.map_append, List.map_cons, List.map_nil, List.nil_append] <;> rfl)
def gLawRows (a_kinds : (List Int)) (a_l : (List Ver)) : Option (Bool) := bif (decide ((60 : Int) < ((a_kinds.length : Nat) : Int))) then
  some (true)
 else
  (gFew a_l).bind fun r_3 => bif (!r_3) then
    some (true)
  else
    (gFit a_l a_kinds).bind fun r_6 => bif (!r_6) then
      some (true)
    else
      (gRows a_kinds a_l).bind fun r_9 => (gRowsR a_kinds a_l).bind fun r_10 => (gExactly r_9 r_10).bind fun r_11 => bif r_11 then
        some (true)
      else
        some false
theorem gLawRows_ok {a_kinds : (List Int)} {a_l : (List Ver)} {r : Bool} (H : gLawRows a_kinds a_l = some r) : Pure Tryz.prog 4 [.one (.lst (a_kinds.map (fun x => [AC.int .i64 x]))), .one (.lst (a_l.map cVer))] (.val (.one (.bool r))) := by
  unfold gLawRows at H
  refine pure_of_aw tab_ok Tryz.func4 rfl rfl Tryz.ntmps4 (by simp) ?_
  simp only [argT, PV.av, List.map_cons, List.map_nil]
  rcases Bool.eq_false_or_eq_true (decide ((60 : Int) < ((a_kinds.length : Nat) : Int))) with q_1 | q_1
  · rw [q_1, cond_true] at H
    have hc_2 := awake_pure
    try simp only [List.map_append, List.map_cons, List.map_nil, List.nil_append, tE_eq, tP_eq] at hc_2
    obtain rfl := Option.some.inj H
    exact go_
  · rw [q_1, cond_false] at H
    obtain ⟨r_3, c1, H⟩ := bind_some H
    replace c1 := gFew_ok c1
    try simp only [List.map_append, List.map_cons, List.map_nil, List.nil_append, tE_eq, tP_eq] at c1
    rcases Bool.eq_false_or_eq_true (!r_3) with q_4 | q_4
    · rw [q_4, cond_true] at H
      have hc_5 := awake_pure
      try simp only [List.map_append, List.map_cons, List.map_nil, List.nil_append, tE_eq, tP_eq] at hc_5
      obtain rfl := Option.some.inj H
      exact go_
    · rw [q_4, cond_false] at H
      obtain ⟨r_6, c2, H⟩ := bind_some H
      replace c2 := gFit_ok c2
      try simp only [List.map_append, List.map_cons, List.map_nil, List.nil_append, tE_eq, tP_eq] at c2
      rcases Bool.eq_false_or_eq_true (!r_6) with q_7 | q_7
      · rw [q_7, cond_true] at H
        have hc_8 := awake_pure
        try simp only [List.map_append, List.map_cons, List.map_nil, List.nil_append, tE_eq, tP_eq] at hc_8
        obtain rfl := Option.some.inj H
        exact go_
      · rw [q_7, cond_false] at H
        obtain ⟨r_9, c3, H⟩ := bind_some H
        replace c3 := gRows_ok c3
        try simp only [List.map_append, List.map_cons, List.map_nil, List.nil_append, tE_eq, tP_eq] at c3
        obtain ⟨r_10, c4, H⟩ := bind_some H
        replace c4 := gRowsR_ok c4
        try simp only [List.map_append, List.map_cons, List.map_nil, List.nil_append, tE_eq, tP_eq] at c4
        obtain ⟨r_11, c5, H⟩ := bind_some H
        replace c5 := gExactly_ok c5
        try simp only [List.map_append, List.map_cons, List.map_nil, List.nil_append, tE_eq, tP_eq] at c5
        rcases Bool.eq_false_or_eq_true r_11 with q_12 | q_12
        · rw [q_12, cond_true] at H
          have hc_13 := awake_pure
          try simp only [List.map_append, List.map_cons, List.map_nil, List.nil_append, tE_eq, tP_eq] at hc_13
          obtain rfl := Option.some.inj H
          exact go_
        · rw [q_12, cond_false] at H
          obtain rfl := Option.some.inj H
          exact go_
end Go.Proofs.YtnbnpnmkgemdeaaGreatDoor
namespace Go.Proofs.YtnbnpnmkgemdeaaGreatDoor
open Go.RowKit Go.MapKept
set_option maxRecDepth 100000
set_option linter.unusedVariables false
set_option linter.unusedSimpArgs false
def intV (n : Int) : Val := if -1125899906842624 ≤ n ∧ n ≤ 1125899906842624 then ⟨1, n, ByteArray.empty⟩ else ⟨0, 0, ByteArray.empty⟩
theorem gIntR_eq (n : Int) : gIntR n = some (intV n) := by
  unfold gIntR gvalidR gValidR gNullR intV
  have e : (ByteArray.empty.toList == (⟨#[]⟩ : ByteArray).toList) = true := by rw [ByteArray.toList_eq, ByteArray.toList_eq]; rfl
  dsimp only
  rw [e, show decide ((1 : Int) = 0) = false from rfl, show decide ((1 : Int) = 1) = true from rfl]
  by_cases h1 : -1125899906842624 ≤ n
  · by_cases h2 : n ≤ 1125899906842624
    · simp [h1, h2]
    · simp [h1, h2]
  · simp [h1]
def extV (v : Ver) : List Val := v.row ++ [v.valid.lo, v.valid.hi, v.system.lo, v.system.hi, v.by_].map intV
theorem gExtR_eq (v : Ver) (h : v.row.length ≤ 1000000) : gExtR v = some (extV v) := by
  unfold gExtR
  rw [show decide (v.row.length ≤ 4398046511104) = true from decide_eq_true (by omega), cond_true]
  rw [loop_list (l := [v.valid.lo, v.valid.hi, v.system.lo, v.system.hi, v.by_]) (mk := fun out i => (out, i)) (f := push intV 4398046511104) ?_ ?_ (by unfold fuel; simp) v.row]
  · rw [fold_push _ _ _ _ (by simp; omega)]; rfl
  · intro s i x hx
    have hi : i < 5 := (List.getElem?_eq_some_iff.1 hx).1
    unfold gExtR_B1 push
    dsimp only
    rw [show decide ((i : Int) < ((5 : Nat) : Int)) = true from decide_eq_true (by omega), cond_true, getI_nat hx]
    simp only [Option.bind_some]
    rw [gIntR_eq, wrapN (by omega)]
    simp only [Option.bind_some]
    cases decide (s.length + 1 ≤ 4398046511104) <;> rfl
  · intro s
    unfold gExtR_B1
    dsimp only
    rw [show decide ((([v.valid.lo, v.valid.hi, v.system.lo, v.system.hi, v.by_].length : Nat) : Int) < ((5 : Nat) : Int)) = false from rfl, cond_false]
theorem gRowsR_eq (kinds : List Int) (l : List Ver) (hk : kinds.length ≤ 1000000) (hl : l.length ≤ 63) (hr : ∀ v ∈ l, v.row.length ≤ 60) : gRowsR kinds l = some ⟨kinds ++ [1, 1, 1, 1, 1], sortV (l.map extV)⟩ := by
  unfold gRowsR
  rw [show decide (kinds.length ≤ 17592186044416) = true from decide_eq_true (by omega), cond_true]
  rw [loop_list (l := [(), (), (), (), ()]) (mk := fun out i => (out, i)) (f := push (fun _ => (1 : Int)) 17592186044416) ?_ ?_ (by unfold fuel; simp) kinds]
  · rw [fold_push _ _ _ _ (by simp; omega)]
    show gRowsR_K1 l (.inl (kinds ++ [1, 1, 1, 1, 1], ((5 : Nat) : Int))) = _
    unfold gRowsR_K1
    dsimp only
    rw [loop_list (l := l) (mk := fun out i => (out, i)) (f := fun s v => (gExtR v).bind fun r => bif decide (s.length + 1 ≤ 5864062014805) then some (.inl (s ++ [r])) else none) ?_ ?_ (by unfold fuel; omega) []]
    · have : ∀ (l : List Ver) (s : List (List Val)), s.length + l.length ≤ 1000 → (∀ v ∈ l, v.row.length ≤ 60) → foldS (ρ := Bag) (fun s v => (gExtR v).bind fun r => bif decide (s.length + 1 ≤ 5864062014805) then some (.inl (s ++ [r])) else none) s l = some (.inl (s ++ l.map extV)) := by
        intro l
        induction l with
        | nil => intro s _ _; simp [foldS]
        | cons x l ih =>
          intro s h hr
          have h' : s.length + (l.length + 1) ≤ 1000 := by simpa using h
          have hx := hr x (List.mem_cons_self ..)
          rw [foldS, gExtR_eq x (by omega)]
          simp only [Option.bind_some]
          rw [show decide (s.length + 1 ≤ 5864062014805) = true from decide_eq_true (by omega), cond_true]
          have := ih (s ++ [extV x]) (by simp; omega) fun v hv => hr v (List.mem_cons_of_mem _ hv)
          simpa using this
      rw [this l [] (by simp; omega) hr]
      show gRowsR_K2 (kinds ++ [1, 1, 1, 1, 1]) (.inl ([] ++ l.map extV, ((l.length : Nat) : Int))) = _
      unfold gRowsR_K2
      dsimp only
      rw [List.nil_append, gSortR_eq _ (by simp; omega) (by
        intro r hr'
        obtain ⟨v, hv, rfl⟩ := List.mem_map.1 hr'
        have := hr v hv
        unfold extV
        simp; omega)]
      rfl
    · intro s i x hx
      have hi : i < l.length := (List.getElem?_eq_some_iff.1 hx).1
      unfold gRowsR_B2
      dsimp only
      rw [lt_dec hx, cond_true, getI_nat hx]
      simp only [Option.bind_some]
      rw [wrapN (by omega)]
      cases gExtR x with
      | none => rfl
      | some r => simp only [Option.bind_some]; cases decide (s.length + 1 ≤ 5864062014805) <;> rfl
    · intro s
      unfold gRowsR_B2
      dsimp only
      rw [lt_decF, cond_false]
  · intro s i x hx
    have hi : i < 5 := (List.getElem?_eq_some_iff.1 hx).1
    unfold gRowsR_B1 push
    dsimp only
    rw [show decide ((i : Int) < 5) = true from decide_eq_true (by omega), cond_true, wrapN (by omega)]
    cases decide (s.length + 1 ≤ 17592186044416) <;> rfl
  · intro s
    rfl
theorem gPrintable_at {s : ByteArray} (hs : s.size ≤ 1000000) : ∀ (n i : Nat), i ≤ s.size → s.size - i < n → ∃ r, (loopM (gPrintable_B1 s) n (i : Int)).bind gPrintable_K1 = some r
  | 0, _, _, h => by omega
  | n + 1, i, h1, hn => by
    rw [loopM]
    unfold gPrintable_B1
    dsimp only
    by_cases hlt : i < s.size
    · rw [show decide ((i : Int) < ((s.size : Nat) : Int)) = true from decide_eq_true (by omega), cond_true]
      obtain ⟨b, hb⟩ : ∃ b, getB s (i : Int) = some b := by
        unfold getB
        rw [if_pos (by omega)]
        exact ⟨s[i], by simp [hlt]⟩
      rw [hb]
      simp only [Option.bind_some]
      cases decide (((b.toNat : Nat) : Int) < 32) with
      | true => exact ⟨_, rfl⟩
      | false =>
        cases decide ((126 : Int) < ((b.toNat : Nat) : Int)) with
        | true => exact ⟨_, rfl⟩
        | false =>
          simp only [cond_false]
          rw [wrapN (by omega)]
          exact gPrintable_at hs n (i + 1) (by omega) (by omega)
    · rw [show decide ((i : Int) < ((s.size : Nat) : Int)) = false from decide_eq_false (by omega), cond_false]
      exact ⟨_, rfl⟩
theorem gPrintable_ex {s : ByteArray} (hs : s.size ≤ 1000000) : ∃ r, gPrintable s = some r := by
  have := gPrintable_at hs fuel 0 (Nat.zero_le _) (by unfold fuel; omega)
  rw [show (((0 : Nat) : Int)) = 0 from rfl] at this
  exact this
theorem gValidR_ex (v : Val) : ∃ r, gValidR v = some r := by
  unfold gValidR
  cases decide (v.kind = 0) with
  | true => cases decide (v.int = 0) <;> exact ⟨_, rfl⟩
  | false =>
    cases decide (v.kind = 1) with
    | true => cases (v.text.toList == (⟨#[]⟩ : ByteArray).toList) <;> cases decide ((-1125899906842624 : Int) ≤ v.int) <;> exact ⟨_, rfl⟩
    | false =>
      cases decide (v.kind = 2) with
      | true =>
        cases decide (v.int = 0) with
        | false => exact ⟨_, rfl⟩
        | true =>
          by_cases h : ((v.text.size : Nat) : Int) ≤ 200
          · obtain ⟨r, hr⟩ := gPrintable_ex (s := v.text) (by omega)
            rw [show decide (((v.text.size : Nat) : Int) ≤ 200) = true from decide_eq_true h, hr]
            exact ⟨_, rfl⟩
          · rw [show decide (((v.text.size : Nat) : Int) ≤ 200) = false from decide_eq_false h]
            exact ⟨_, rfl⟩
      | false =>
        cases decide (v.kind = 3) with
        | true => cases (v.text.toList == (⟨#[]⟩ : ByteArray).toList) <;> cases decide (v.int = 0) <;> exact ⟨_, rfl⟩
        | false => exact ⟨_, rfl⟩
theorem gFits8_ex (row : List Val) (kinds : List Int) (h : row.length ≤ 1000000) : ∃ r, gFits8 row kinds = some r := by
  unfold gFits8
  by_cases he : row.length = kinds.length
  · rw [show decide (((row.length : Nat) : Int) ≠ ((kinds.length : Nat) : Int)) = false from decide_eq_false (by omega), cond_false]
    have hz : (row.zip kinds).length = row.length := by simp; omega
    have k := loop_list (l := row.zip kinds) (body := gFits8_B1 row kinds) (mk := fun (_ : Unit) i => i) (f := fun (_ : Unit) (x : Val × Int) => (gValidR x.1).bind fun r => bif (!r) then some (.inr false) else bif decide (x.1.kind ≠ 0) then bif decide (x.1.kind ≠ x.2) then some (.inr false) else some (.inl ()) else some (.inl ())) ?_ ?_ (by unfold fuel; omega) ()
    · obtain ⟨r, hr⟩ := fold_ex (σ := Unit) (ρ := Bool) (f := fun (_ : Unit) (x : Val × Int) => (gValidR x.1).bind fun r => bif (!r) then some (.inr false) else bif decide (x.1.kind ≠ 0) then bif decide (x.1.kind ≠ x.2) then some (.inr false) else some (.inl ()) else some (.inl ())) (row.zip kinds) () (by
        intro s x _
        obtain ⟨r, hr⟩ := gValidR_ex x.1
        rw [hr]
        cases r <;> cases decide (x.1.kind ≠ 0) <;> cases decide (x.1.kind ≠ x.2) <;> exact ⟨_, rfl⟩)
      rw [k, hr]
      cases r with
      | inl _ => exact ⟨_, rfl⟩
      | inr _ => exact ⟨_, rfl⟩
    · intro s i x hx
      obtain ⟨h1, h2⟩ := List.getElem?_zip_eq_some.1 hx
      have hi : i < row.length := (List.getElem?_eq_some_iff.1 h1).1
      unfold gFits8_B1
      dsimp only
      rw [lt_dec h1, cond_true, getI_nat h1, getI_nat h2]
      simp only [Option.bind_some]
      rw [wrapN (by omega)]
      cases gValidR x.1 with
      | none => rfl
      | some r => cases r <;> cases decide (x.1.kind ≠ 0) <;> cases decide (x.1.kind ≠ x.2) <;> rfl
    · intro s
      unfold gFits8_B1
      dsimp only
      rw [hz, lt_decF, cond_false]
  · rw [show decide (((row.length : Nat) : Int) ≠ ((kinds.length : Nat) : Int)) = true from decide_eq_true (by omega)]
    exact ⟨_, rfl⟩
theorem gKind_ex (k : Int) : ∃ r, gKind k = some r := by
  unfold gKind
  cases decide (k = 1) <;> cases decide (k = 2) <;> exact ⟨_, rfl⟩
theorem gKinds_ex (l : List Int) (h : l.length ≤ 1000000) : ∃ r, gKinds l = some r := by
  unfold gKinds
  have k := loop_list (l := l) (body := gKinds_B1 l) (mk := fun (_ : Unit) i => i) (f := fun (_ : Unit) (x : Int) => (gKind x).bind fun r => bif (!r) then some (.inr false) else some (.inl ())) ?_ ?_ (by unfold fuel; omega) ()
  · obtain ⟨r, hr⟩ := fold_ex (σ := Unit) (ρ := Bool) (f := fun (_ : Unit) (x : Int) => (gKind x).bind fun r => bif (!r) then some (.inr false) else some (.inl ())) l () (by
      intro s x _
      obtain ⟨r, hr⟩ := gKind_ex x
      rw [hr]
      cases r <;> exact ⟨_, rfl⟩)
    rw [k, hr]
    cases r with
    | inl _ => exact ⟨_, rfl⟩
    | inr _ => exact ⟨_, rfl⟩
  · intro s i x hx
    have hi : i < l.length := (List.getElem?_eq_some_iff.1 hx).1
    unfold gKinds_B1
    dsimp only
    rw [lt_dec hx, cond_true, getI_nat hx]
    simp only [Option.bind_some]
    rw [wrapN (by omega)]
    cases gKind x with
    | none => rfl
    | some r => cases r <;> rfl
  · intro s
    unfold gKinds_B1
    dsimp only
    rw [lt_decF, cond_false]
theorem gFit_ex (l : List Ver) (kinds : List Int) (h : l.length ≤ 1000000) (hk : kinds.length ≤ 1000000) (hr : ∀ v ∈ l, v.row.length ≤ 1000000) : ∃ r, gFit l kinds = some r := by
  unfold gFit
  have k := loop_list (l := l) (body := gFit_B1 l kinds) (mk := fun (_ : Unit) i => i) (f := fun (_ : Unit) (x : Ver) => (gFits8 x.row kinds).bind fun r => bif (!r) then some (.inr false) else some (.inl ())) ?_ ?_ (by unfold fuel; omega) ()
  · obtain ⟨r, hr⟩ := fold_ex (σ := Unit) (ρ := Bool) (f := fun (_ : Unit) (x : Ver) => (gFits8 x.row kinds).bind fun r => bif (!r) then some (.inr false) else some (.inl ())) l () (by
      intro s x hx
      obtain ⟨r, hr⟩ := gFits8_ex x.row kinds (hr x hx)
      rw [hr]
      cases r <;> exact ⟨_, rfl⟩)
    rw [k, hr]
    cases r with
    | inl _ =>
      obtain ⟨q, hq⟩ := gKinds_ex kinds hk
      refine ⟨q, ?_⟩
      show gFit_K1 kinds (.inl ((l.length : Nat) : Int)) = _
      unfold gFit_K1
      rw [hq]; rfl
    | inr _ => exact ⟨_, rfl⟩
  · intro s i x hx
    have hi : i < l.length := (List.getElem?_eq_some_iff.1 hx).1
    unfold gFit_B1
    dsimp only
    rw [lt_dec hx, cond_true, getI_nat hx]
    simp only [Option.bind_some]
    rw [wrapN (by omega)]
    cases gFits8 x.row kinds with
    | none => rfl
    | some r => cases r <;> rfl
  · intro s
    unfold gFit_B1
    dsimp only
    rw [lt_decF, cond_false]
theorem gSameKinds_refl (l : List Int) (h : l.length ≤ 1000000) : gSameKinds l l = some true := by
  unfold gSameKinds
  simp only [ne_eq, not_true_eq_false, decide_false, cond_false]
  rw [loop_list (l := l) (mk := fun (_ : Unit) i => i) (f := fun (_ : Unit) (_ : Int) => (some (.inl ()) : Option (Sum Unit Bool))) ?_ ?_ (by unfold fuel; omega) ()]
  · have : ∀ l : List Int, foldS (fun (_ : Unit) (_ : Int) => (some (.inl ()) : Option (Sum Unit Bool))) () l = some (.inl ()) := by
      intro l
      induction l with
      | nil => rfl
      | cons x l ih => rw [foldS]; exact ih
    rw [this]; rfl
  · intro s i x hx
    have hi : i < l.length := (List.getElem?_eq_some_iff.1 hx).1
    unfold gSameKinds_B1
    dsimp only
    rw [lt_dec hx, cond_true, getI_nat hx]
    simp only [Option.bind_some]
    rw [wrapN (by omega)]
    simp [foldN]
  · intro s
    unfold gSameKinds_B1
    dsimp only
    rw [lt_decF, cond_false]
theorem gSameRows_refl (l : List (List Val)) (h : l.length ≤ 1000000) (hr : ∀ r ∈ l, r.length ≤ 1000000) : gSameRows l l = some true := by
  unfold gSameRows
  simp only [ne_eq, not_true_eq_false, decide_false, cond_false]
  rw [loop_list (l := l) (mk := fun (_ : Unit) i => i) (f := fun (_ : Unit) (x : List Val) => ((gEqual8 x x).bind fun r => bif (!r) then some (.inr false) else some (.inl ()) : Option (Sum Unit Bool))) ?_ ?_ (by unfold fuel; omega) ()]
  · have : ∀ l : List (List Val), (∀ r ∈ l, r.length ≤ 1000000) → foldS (fun (_ : Unit) (x : List Val) => ((gEqual8 x x).bind fun r => bif (!r) then some (.inr false) else some (.inl ()) : Option (Sum Unit Bool))) () l = some (.inl ()) := by
      intro l
      induction l with
      | nil => intro _; rfl
      | cons x l ih =>
        intro hr
        have hx := hr x (List.mem_cons_self ..)
        have e : gEqual8 x x = some true := by
          unfold gEqual8
          rw [gCmp8_eq x x (by omega) (by omega), totC_rcmp.refl]; rfl
        rw [foldS, e]
        exact ih fun r hr' => hr r (List.mem_cons_of_mem _ hr')
    rw [this l hr]; rfl
  · intro s i x hx
    have hi : i < l.length := (List.getElem?_eq_some_iff.1 hx).1
    unfold gSameRows_B1
    dsimp only
    rw [lt_dec hx, cond_true, getI_nat hx]
    simp only [Option.bind_some]
    rw [wrapN (by omega)]
    cases gEqual8 x x with
    | none => rfl
    | some r => cases r <;> rfl
  · intro s
    unfold gSameRows_B1
    dsimp only
    rw [lt_decF, cond_false]
theorem gExactly_refl (b : Bag) (h1 : b.kinds.length ≤ 1000000) (h2 : b.rows.length ≤ 1000000) (h3 : ∀ r ∈ b.rows, r.length ≤ 1000000) : gExactly b b = some true := by
  unfold gExactly
  rw [gSameKinds_refl _ h1]
  simp only [Option.bind_some, cond_true]
  rw [gSameRows_refl _ h2 h3]; rfl
end Go.Proofs.YtnbnpnmkgemdeaaGreatDoor
namespace Go.Proofs.YtnbnpnmkgemdeaaGreatDoor
open Go.RowKit Go.MapKept
set_option linter.unusedVariables false
set_option maxRecDepth 100000
section
variable {H : Type} {enc : TypeId × Value → H} {W : World} {hT : TabR (fun b o => W.cell? ⟨b, o, none⟩)} {base : Nat} {spare : Nat → Bool} {held : Bool}
theorem rd_l34 {cs : List Value} {fuel : Nat} {x : DataW H × List MemPlace} (h : DataW.trod enc Tryz.prog W base spare held fuel 34 cs = some x) (hw : WOk 34 x.1) : ∃ l : List Int, CRd hT cs [.lst (l.map (fun x => [AC.int .i64 x]))] ∧ LOk 8 IOk l :=
  read_slice (k := 1) (f := (fun x => [AC.int .i64 x])) (Q := IOk) Tryz.underlying34 (by kernel_rfl) (by kernel_rfl) (by decide) (fun _ => rfl) h hw (fun f c x _ h hw => read_int Tryz.underlying3 h)
end
end Go.Proofs.YtnbnpnmkgemdeaaGreatDoor
namespace Go.Proofs.YtnbnpnmkgemdeaaGreatDoor
open Go.RowKit Go.MapKept
set_option maxRecDepth 100000
set_option linter.unusedVariables false
set_option linter.unusedSimpArgs false
theorem gIntP_eq (n : Int) : gIntP n = some (intV n) := by
  unfold gIntP gOrNull gValidP gNull intV
  have e : (ByteArray.empty.toList == (⟨#[]⟩ : ByteArray).toList) = true := by rw [ByteArray.toList_eq, ByteArray.toList_eq]; rfl
  dsimp only
  rw [e, show decide ((1 : Int) = 0) = false from rfl, show decide ((1 : Int) = 1) = true from rfl]
  by_cases h1 : -1125899906842624 ≤ n
  · by_cases h2 : n ≤ 1125899906842624
    · simp [h1, h2]
    · simp [h1, h2]
  · simp [h1]
theorem gExt_eq (row : List Val) (l : List Int) (h : row.length ≤ 1000000) (hl : l.length ≤ 1000000) : gExt row l = some (row ++ l.map intV) := by
  unfold gExt
  rw [show decide (row.length ≤ 4398046511104) = true from decide_eq_true (by omega), cond_true]
  rw [loop_list (l := l) (mk := fun out i => (out, i)) (f := push intV 4398046511104) ?_ ?_ (by unfold fuel; omega) row]
  · rw [fold_push _ _ _ _ (by omega)]; rfl
  · intro s i x hx
    have hi : i < l.length := (List.getElem?_eq_some_iff.1 hx).1
    unfold gExt_B1 push
    dsimp only
    rw [lt_dec hx, cond_true, getI_nat hx]
    simp only [Option.bind_some]
    rw [gIntP_eq, wrapN (by omega)]
    simp only [Option.bind_some]
    cases decide (s.length + 1 ≤ 4398046511104) <;> rfl
  · intro s
    unfold gExt_B1
    dsimp only
    rw [lt_decF, cond_false]
theorem gRows_eq (kinds : List Int) (l : List Ver) (hk : kinds.length ≤ 1000000) (hl : l.length ≤ 19) (hr : ∀ v ∈ l, v.row.length ≤ 60) : gRows kinds l = some ⟨kinds ++ [1, 1, 1, 1, 1], sortV (l.map extV)⟩ := by
  unfold gRows
  rw [show decide (kinds.length ≤ 17592186044416) = true from decide_eq_true (by omega), cond_true]
  rw [loop_list (l := [(), (), (), (), ()]) (mk := fun out i => (out, i)) (f := push (fun _ => (1 : Int)) 17592186044416) ?_ ?_ (by unfold fuel; simp) kinds]
  · rw [fold_push _ _ _ _ (by simp; omega)]
    show gRows_K1 l (.inl (kinds ++ [1, 1, 1, 1, 1], ((5 : Nat) : Int))) = _
    unfold gRows_K1
    dsimp only
    rw [loop_list (l := l) (mk := fun out i => (out, i)) (f := fun s v => (gExt v.row [v.valid.lo, v.valid.hi, v.system.lo, v.system.hi, v.by_]).bind fun r => bif decide (s.length + 1 ≤ 5864062014805) then some (.inl (s ++ [r])) else none) ?_ ?_ (by unfold fuel; omega) []]
    · have : ∀ (l : List Ver) (s : List (List Val)), s.length + l.length ≤ 1000 → (∀ v ∈ l, v.row.length ≤ 60) → foldS (ρ := Bag) (fun s v => (gExt v.row [v.valid.lo, v.valid.hi, v.system.lo, v.system.hi, v.by_]).bind fun r => bif decide (s.length + 1 ≤ 5864062014805) then some (.inl (s ++ [r])) else none) s l = some (.inl (s ++ l.map extV)) := by
        intro l
        induction l with
        | nil => intro s _ _; simp [foldS]
        | cons x l ih =>
          intro s h hr
          have h' : s.length + (l.length + 1) ≤ 1000 := by simpa using h
          have hx := hr x (List.mem_cons_self ..)
          rw [foldS, gExt_eq x.row _ (by omega) (by simp)]
          simp only [Option.bind_some]
          rw [show decide (s.length + 1 ≤ 5864062014805) = true from decide_eq_true (by omega), cond_true]
          have := ih (s ++ [extV x]) (by simp; omega) fun v hv => hr v (List.mem_cons_of_mem _ hv)
          simpa [extV] using this
      rw [this l [] (by simp; omega) hr]
      show gRows_K2 (kinds ++ [1, 1, 1, 1, 1]) (.inl ([] ++ l.map extV, ((l.length : Nat) : Int))) = _
      unfold gRows_K2
      dsimp only
      have hs : sortable (l.map extV) = true := by
        unfold sortable
        rw [Bool.and_eq_true, List.all_eq_true]
        refine ⟨decide_eq_true (by simp; omega), fun r hr' => ?_⟩
        obtain ⟨v, hv, rfl⟩ := List.mem_map.1 hr'
        have := hr v hv
        unfold extV
        rw [Bool.and_eq_true]
        exact ⟨by simp, decide_eq_true (by simp; omega)⟩
      rw [List.nil_append]
      unfold gSort
      rw [hs]
      rfl
    · intro s i x hx
      have hi : i < l.length := (List.getElem?_eq_some_iff.1 hx).1
      unfold gRows_B2
      dsimp only
      rw [lt_dec hx, cond_true, getI_nat hx]
      simp only [Option.bind_some]
      rw [wrapN (by omega)]
      cases gExt x.row [x.valid.lo, x.valid.hi, x.system.lo, x.system.hi, x.by_] with
      | none => rfl
      | some r => simp only [Option.bind_some]; cases decide (s.length + 1 ≤ 5864062014805) <;> rfl
    · intro s
      unfold gRows_B2
      dsimp only
      rw [lt_decF, cond_false]
  · intro s i x hx
    have hi : i < 5 := (List.getElem?_eq_some_iff.1 hx).1
    unfold gRows_B1 push
    dsimp only
    rw [show decide ((i : Int) < 5) = true from decide_eq_true (by omega), cond_true, wrapN (by omega)]
    cases decide (s.length + 1 ≤ 17592186044416) <;> rfl
  · intro s
    rfl
theorem gLawRows_true {kinds : List Int} {l : List Ver} (hl : LOk 88 okVer l) : gLawRows kinds l = some true := by
  have hlen : l.length ≤ 3000000000000 := by
    have := hl.1
    unfold reachBytes at this
    omega
  unfold gLawRows
  by_cases h60 : (60 : Int) < ((kinds.length : Nat) : Int)
  · rw [show decide ((60 : Int) < ((kinds.length : Nat) : Int)) = true from decide_eq_true h60]; rfl
  rw [show decide ((60 : Int) < ((kinds.length : Nat) : Int)) = false from decide_eq_false h60, cond_false]
  rw [gFew_eq l hlen]
  simp only [Option.bind_some]
  cases hf : fewF (l.map factOf) 16 with
  | false => rfl
  | true =>
    obtain ⟨h16, hr⟩ := few_of hf
    simp only [Bool.not_true, cond_false]
    obtain ⟨b, hb⟩ := gFit_ex l kinds (by omega) (by omega) fun v hv => by have := hr v hv; omega
    rw [hb]
    simp only [Option.bind_some]
    cases b with
    | false => rfl
    | true =>
      simp only [Bool.not_true, cond_false]
      rw [gRows_eq kinds l (by omega) (by omega) hr, gRowsR_eq kinds l (by omega) (by omega) hr]
      simp only [Option.bind_some]
      rw [gExactly_refl _ (by simp; omega) (by show (sortV (l.map extV)).length ≤ _; rw [(sortV_perm _).length_eq]; simp; omega) (by
        intro r hr'
        have hr2 : r ∈ sortV (l.map extV) := hr'
        obtain ⟨v, hv, rfl⟩ := List.mem_map.1 ((sortV_perm _).mem_iff.1 hr2)
        have := hr v hv
        unfold extV
        simp; omega)]
      rfl
theorem nonseqRows_pure {kinds : List Int} {l : List Ver} (_ : LOk 8 IOk kinds) (hl : LOk 88 okVer l) : Pure Tryz.prog 4 [.one (.lst (kinds.map (fun x => [AC.int .i64 x]))), .one (.lst (l.map cVer))] (.val (.one (.bool true))) := gLawRows_ok (gLawRows_true hl)
end Go.Proofs.YtnbnpnmkgemdeaaGreatDoor
