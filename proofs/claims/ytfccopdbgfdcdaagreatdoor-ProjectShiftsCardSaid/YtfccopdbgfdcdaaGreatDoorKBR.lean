/- Parts of the proof, joined. No condition. -/
import Derived.Test.YtfccopdbgfdcdaaGreatDoorKBH
import Derived.Test.YtfccopdbgfdcdaaGreatDoorKBP
import Derived.Test.YtfccopdbgfdcdaaGreatDoorKBQ
import Derived.Test.YtfccopdbgfdcdaaGreatDoorKBI
import Derived.Test.YtfccopdbgfdcdaaGreatDoorKBO
import Derived.Test.YtfccopdbgfdcdaaGreatDoorKBE
import Derived.Test.YtfccopdbgfdcdaaGreatDoorKBF
set_option linter.unusedSimpArgs false
set_option linter.unusedVariables false
namespace Go.Proofs.YtfccopdbgfdcdaaGreatDoor
open Go.RowKit Go.MapKept
set_option maxRecDepth 100000
set_option maxHeartbeats 8000000
set_option linter.unusedVariables false
set_option linter.unusedSimpArgs false
end Go.Proofs.YtfccopdbgfdcdaaGreatDoor
namespace Go.Proofs.YtfccopdbgfdcdaaGreatDoor
open Go.RowKit Go.MapKept
set_option maxRecDepth 100000
set_option maxHeartbeats 8000000
set_option linter.unusedVariables false
set_option linter.unusedSimpArgs false
end Go.Proofs.YtfccopdbgfdcdaaGreatDoor
namespace Go.Proofs.YtfccopdbgfdcdaaGreatDoor
open Go.RowKit Go.MapKept
set_option maxRecDepth 100000
set_option linter.unusedVariables false
set_option linter.unusedSimpArgs false
end Go.Proofs.YtfccopdbgfdcdaaGreatDoor
namespace Go.Proofs.YtfccopdbgfdcdaaGreatDoor
open Go.RowKit Go.MapKept
set_option maxRecDepth 100000
set_option maxHeartbeats 8000000
set_option linter.unusedVariables false
set_option linter.unusedSimpArgs false
end Go.Proofs.YtfccopdbgfdcdaaGreatDoor
namespace Go.Proofs.YtfccopdbgfdcdaaGreatDoor
open Go.RowKit Go.MapKept
set_option maxRecDepth 100000
set_option linter.unusedVariables false
set_option linter.unusedSimpArgs false
end Go.Proofs.YtfccopdbgfdcdaaGreatDoor
namespace Go.Proofs.YtfccopdbgfdcdaaGreatDoor
open Go.RowKit Go.MapKept
set_option maxRecDepth 100000
set_option maxHeartbeats 8000000
set_option linter.unusedVariables false
set_option linter.unusedSimpArgs false
end Go.Proofs.YtfccopdbgfdcdaaGreatDoor
namespace Go.Proofs.YtfccopdbgfdcdaaGreatDoor
open Go.RowKit Go.MapKept
set_option maxRecDepth 100000
set_option linter.unusedVariables false
set_option linter.unusedSimpArgs false
end Go.Proofs.YtfccopdbgfdcdaaGreatDoor
namespace Go.Proofs.YtfccopdbgfdcdaaGreatDoor
open Go.RowKit Go.MapKept
set_option maxRecDepth 100000
set_option maxHeartbeats 8000000
set_option linter.unusedVariables false
set_option linter.unusedSimpArgs false
noncomputable section
def gRelation (a_kinds : (List Int)) (a_l : (List Fct)) : Option (Rln) := bif (decide (a_kinds.length ≤ 17592186044416)) then ((gBag a_l).bind fun r_1 => some (⟨a_kinds, r_1⟩ : Rln)) else none
theorem gRelation_ok {a_kinds : (List Int)} {a_l : (List Fct)} {r : Rln} (H : gRelation a_kinds a_l = some r) : Pure Tryz.prog 50 [.one (.lst (a_kinds.map (fun x => [AC.int .i64 x]))), .one (.lst (a_l.map cFct))] (.val (.agg (cRln r))) := by
  unfold gRelation at H
  refine pure_of_aw tab_ok Tryz.func50 rfl rfl Tryz.ntmps50 (by simp) ?_
  simp only [argT, PV.av, List.map_cons, List.map_nil]
  obtain ⟨g1, H⟩ := grd_some H
  replace g1 := of_decide_eq_true g1
  obtain ⟨r_1, c2, H⟩ := bind_some H
  replace c2 := gBag_ok c2
  try simp only [List.map_append, List.map_cons, List.map_nil, List.nil_append, tE_eq] at c2
  obtain rfl := Option.some.inj H
  repeat' (first | refine p_ rfl rfl rfl rfl rfl ?_ | refine st_nil ?_ | refine x_ rfl rfl rfl rfl rfl rfl rfl rfl ?_ | refine l_ rfl rfl rfl rfl ?_ | refine s_ rfl rfl rfl ?_ | refine t_ rfl rfl rfl rfl ?_ | refine k_ rfl rfl rfl ?_ | refine k0_ rfl rfl ?_ | refine c_ rfl rfl rfl rfl ?_ | refine pick_t rfl rfl rfl rfl rfl rfl rfl ?_ | refine pick_f rfl rfl rfl rfl rfl rfl rfl ?_ | refine aw_seq ?_ | refine aw_region tab_ok _ rfl ?_ | refine aw_drawn2 tabS_ok _ rfl mixed (by decide +kernel) ?_ | refine aw_condT rfl ?_ | refine aw_condF rfl ?_ | refine aw_block ?_ | refine aw_exit ?_ | refine aw_ret ?_ | refine aw_skip ?_ | rw [List.length_map] | rw [mn_norm] | rw [mx_norm])
  refine end_ret (res_of rfl ?_ ?_)
  · repeat' (first | exact trivial | rfl | exact Nat.le_of_ble_eq_true rfl | omega | apply And.intro)
  · first | rfl | (simp only [List.map_append, List.map_cons, List.map_nil, List.nil_append] <;> rfl)
def gMoved (a_at : Int) (a_n : Int) : Option (Int) := bif (decide (a_n < (-1099511627776 : Int))) then
  some (0 : Int)
 else
  bif (decide ((1099511627776 : Int) < a_n)) then
    some (1099511627776 : Int)
  else
    some (mnI (mxI (IntKind.i64.wrap (a_at + a_n)) (0 : Int)) (1099511627776 : Int))
theorem gMoved_ok {a_at : Int} {a_n : Int} {r : Int} (H : gMoved a_at a_n = some r) : Pure Tryz.prog 57 [.one (.int .i64 a_at), .one (.int .i64 a_n)] (.val (.one (.int .i64 r))) := by
  unfold gMoved at H
  refine pure_of_aw tab_ok Tryz.func57 rfl rfl Tryz.ntmps57 (by simp) ?_
  simp only [argT, PV.av, List.map_cons, List.map_nil]
  rcases Bool.eq_false_or_eq_true (decide (a_n < (-1099511627776 : Int))) with q_1 | q_1
  · replace H := cnd_t q_1 H
    obtain rfl := Option.some.inj H
    exact go_
  · replace H := cnd_f q_1 H
    rcases Bool.eq_false_or_eq_true (decide ((1099511627776 : Int) < a_n)) with q_2 | q_2
    · replace H := cnd_t q_2 H
      obtain rfl := Option.some.inj H
      exact go_
    · replace H := cnd_f q_2 H
      obtain rfl := Option.some.inj H
      exact go_
def gShiftP_B1 (a_r : Rln) (a_n : Int) : ((List Fct) × Int) → Option (Step ((List Fct) × Int) (Rln)) := fun s => match s with
  | (out_1, v_2) => bif (decide (v_2 < ((a_r.facts.length : Nat) : Int))) then
    (getI a_r.facts v_2).bind fun x_4 => (gMoved x_4.valid.lo a_n).bind fun r_5 => bif (decide (x_4.valid.hi < (1099511627776 : Int))) then
      (gMoved x_4.valid.hi a_n).bind fun r_7 => (gPV (⟨r_5, r_7⟩ : Per)).bind fun r_8 => bif r_8 then
        bif (decide (out_1.length + 1 ≤ 3518437208883)) then (some (.next ((out_1 ++ [(⟨x_4.row, (⟨r_5, r_7⟩ : Per)⟩ : Fct)]), (IntKind.i64.wrap (v_2 + (1 : Int)))))) else none
      else
        some (.next (out_1, (IntKind.i64.wrap (v_2 + (1 : Int)))))
    else
      (gPV (⟨r_5, (1099511627776 : Int)⟩ : Per)).bind fun r_10 => bif r_10 then
        bif (decide (out_1.length + 1 ≤ 3518437208883)) then (some (.next ((out_1 ++ [(⟨x_4.row, (⟨r_5, (1099511627776 : Int)⟩ : Per)⟩ : Fct)]), (IntKind.i64.wrap (v_2 + (1 : Int)))))) else none
      else
        some (.next (out_1, (IntKind.i64.wrap (v_2 + (1 : Int)))))
  else
    some (.exit (out_1, v_2))
def gShiftP_K1 (a_r : Rln) : Sum ((List Fct) × Int) (Rln) → Option ((Rln))
  | .inl (out_1, v_2) => (gRelation a_r.kinds out_1).bind fun r_12 => some r_12
  | .inr q => some q
def gShiftP (a_r : Rln) (a_n : Int) : Option (Rln) := (loopM (gShiftP_B1 a_r a_n) fuel ([], (0 : Int))).bind (gShiftP_K1 a_r)
theorem gShiftP_ok {a_r : Rln} {a_n : Int} {r : Rln} (H : gShiftP a_r a_n = some r) : Pure Tryz.prog 25 [.agg (cRln a_r), .one (.int .i64 a_n)] (.val (.agg (cRln r))) := by
  unfold gShiftP at H
  refine pure_of_aw tab_ok Tryz.func25 rfl rfl Tryz.ntmps25 (by simp) ?_
  simp only [argT, PV.av, List.map_cons, List.map_nil]
  repeat' (first | refine p_ rfl rfl rfl rfl rfl ?_ | refine st_nil ?_ | refine x_ rfl rfl rfl rfl rfl rfl rfl rfl ?_ | refine l_ rfl rfl rfl rfl ?_ | refine s_ rfl rfl rfl ?_ | refine t_ rfl rfl rfl rfl ?_ | refine k_ rfl rfl rfl ?_ | refine k0_ rfl rfl ?_ | refine c_ rfl rfl rfl rfl ?_ | refine pick_t rfl rfl rfl rfl rfl rfl rfl ?_ | refine pick_f rfl rfl rfl rfl rfl rfl rfl ?_ | refine aw_seq ?_ | refine aw_region tab_ok _ rfl ?_ | refine aw_drawn2 tabS_ok _ rfl mixed (by decide +kernel) ?_ | refine aw_condT rfl ?_ | refine aw_condF rfl ?_ | refine aw_block ?_ | refine aw_exit ?_ | refine aw_ret ?_ | refine aw_skip ?_ | rw [List.length_map] | rw [mn_norm] | rw [mx_norm])
  refine aw_tok 5 3 rfl ?_
  refine aw_loopM (fun s : (List Fct) × Int => match s with | (out_1, v_2) => [(1, .one (.c (.int .i64 a_n))), (2, .one (.ptr 0 0)), (4, .one (.ptr 1 0)), (5, .one (.own (out_1.map cFct) 2)), (10, .one (.c (.lst (a_r.facts.map cFct)))), (11, .one (.c (.int .i64 ((a_r.facts.length : Nat) : Int)))), (12, .one (.c (.int .i64 v_2)))]) (fun s => match s with | (out_1, v_2) => [.box [.c (.lst (a_r.kinds.map (fun x => [AC.int .i64 x]))), .c (.lst (a_r.facts.map cFct))], .box [.emp, .emp], .spare out_1.length 3]) H (fun _ => Nat.zero_le _)
    (fits_mk ⟨rfl, rfl, rfl, rfl, rfl, rfl, rfl, trivial⟩ [] rfl ⟨trivial, by show 0 < 3; omega, by show 1 < 3; omega, by show 2 < 3; omega, trivial, trivial, trivial, trivial⟩ ⟨ob_below (by rfl), ob_below (by rfl), trivial, trivial⟩) ?_
  rintro ⟨out_1, v_2⟩ st1 hb1 hk1
  unfold gShiftP_B1 at hb1
  dsimp only at hb1 ⊢
  rcases Bool.eq_false_or_eq_true (decide (v_2 < ((a_r.facts.length : Nat) : Int))) with q_3 | q_3
  · replace hb1 := cnd_t q_3 hb1
    obtain ⟨x_4, i1, hb1⟩ := bind_some hb1
    obtain ⟨i1z, i1⟩ := getI_some i1
    have i1x := idxI (f := cFct) i1
    obtain ⟨r_5, c2, hb1⟩ := bind_some hb1
    replace c2 := gMoved_ok c2
    try simp only [List.map_append, List.map_cons, List.map_nil, List.nil_append, tE_eq] at c2
    rcases Bool.eq_false_or_eq_true (decide (x_4.valid.hi < (1099511627776 : Int))) with q_6 | q_6
    · replace hb1 := cnd_t q_6 hb1
      obtain ⟨r_7, c3, hb1⟩ := bind_some hb1
      replace c3 := gMoved_ok c3
      try simp only [List.map_append, List.map_cons, List.map_nil, List.nil_append, tE_eq] at c3
      obtain ⟨r_8, c4, hb1⟩ := bind_some hb1
      replace c4 := gPV_ok c4
      try simp only [List.map_append, List.map_cons, List.map_nil, List.nil_append, tE_eq] at c4
      rcases Bool.eq_false_or_eq_true r_8 with q_9 | q_9
      · replace hb1 := cnd_t q_9 hb1
        obtain ⟨g5, hb1⟩ := grd_some hb1
        replace g5 := of_decide_eq_true g5
        obtain rfl := Option.some.inj hb1
        repeat' (first | refine p_ rfl rfl rfl rfl rfl ?_ | refine st_nil ?_ | refine x_ rfl rfl rfl rfl rfl rfl rfl rfl ?_ | refine l_ rfl rfl rfl rfl ?_ | refine s_ rfl rfl rfl ?_ | refine t_ rfl rfl rfl rfl ?_ | refine k_ rfl rfl rfl ?_ | refine k0_ rfl rfl ?_ | refine c_ rfl rfl rfl rfl ?_ | refine pick_t rfl rfl rfl rfl rfl rfl rfl ?_ | refine pick_f rfl rfl rfl rfl rfl rfl rfl ?_ | refine aw_seq ?_ | refine aw_region tab_ok _ rfl ?_ | refine aw_drawn2 tabS_ok _ rfl mixed (by decide +kernel) ?_ | refine aw_condT rfl ?_ | refine aw_condF rfl ?_ | refine aw_block ?_ | refine aw_exit ?_ | refine aw_ret ?_ | refine aw_skip ?_ | rw [List.length_map] | rw [mn_norm] | rw [mx_norm])
        exact ⟨_, rfl, fits_mk ⟨rfl, rfl, rfl, (by simp only [List.map_append, List.map_cons, List.map_nil, List.nil_append] <;> rfl), rfl, rfl, rfl, trivial⟩ [_, _] (by simp only [List.length_append, List.length_cons, List.length_nil, Nat.zero_add, List.map_append, List.map_cons, List.map_nil] <;> rfl) ⟨trivial, by show 0 < 3; omega, by show 1 < 3; omega, by show 2 < 3; omega, trivial, trivial, trivial, trivial⟩ ⟨ob_below (by rfl), ob_below (by rfl), trivial, trivial⟩⟩
      · replace hb1 := cnd_f q_9 hb1
        obtain rfl := Option.some.inj hb1
        repeat' (first | refine p_ rfl rfl rfl rfl rfl ?_ | refine st_nil ?_ | refine x_ rfl rfl rfl rfl rfl rfl rfl rfl ?_ | refine l_ rfl rfl rfl rfl ?_ | refine s_ rfl rfl rfl ?_ | refine t_ rfl rfl rfl rfl ?_ | refine k_ rfl rfl rfl ?_ | refine k0_ rfl rfl ?_ | refine c_ rfl rfl rfl rfl ?_ | refine pick_t rfl rfl rfl rfl rfl rfl rfl ?_ | refine pick_f rfl rfl rfl rfl rfl rfl rfl ?_ | refine aw_seq ?_ | refine aw_region tab_ok _ rfl ?_ | refine aw_drawn2 tabS_ok _ rfl mixed (by decide +kernel) ?_ | refine aw_condT rfl ?_ | refine aw_condF rfl ?_ | refine aw_block ?_ | refine aw_exit ?_ | refine aw_ret ?_ | refine aw_skip ?_ | rw [List.length_map] | rw [mn_norm] | rw [mx_norm])
        exact ⟨_, rfl, fits_mk ⟨rfl, rfl, rfl, (by simp only [List.map_append, List.map_cons, List.map_nil, List.nil_append] <;> rfl), rfl, rfl, rfl, trivial⟩ [_, _] (by simp only [List.length_append, List.length_cons, List.length_nil, Nat.zero_add, List.map_append, List.map_cons, List.map_nil] <;> rfl) ⟨trivial, by show 0 < 3; omega, by show 1 < 3; omega, by show 2 < 3; omega, trivial, trivial, trivial, trivial⟩ ⟨ob_below (by rfl), ob_below (by rfl), trivial, trivial⟩⟩
    · replace hb1 := cnd_f q_6 hb1
      obtain ⟨r_10, c6, hb1⟩ := bind_some hb1
      replace c6 := gPV_ok c6
      try simp only [List.map_append, List.map_cons, List.map_nil, List.nil_append, tE_eq] at c6
      rcases Bool.eq_false_or_eq_true r_10 with q_11 | q_11
      · replace hb1 := cnd_t q_11 hb1
        obtain ⟨g7, hb1⟩ := grd_some hb1
        replace g7 := of_decide_eq_true g7
        obtain rfl := Option.some.inj hb1
        repeat' (first | refine p_ rfl rfl rfl rfl rfl ?_ | refine st_nil ?_ | refine x_ rfl rfl rfl rfl rfl rfl rfl rfl ?_ | refine l_ rfl rfl rfl rfl ?_ | refine s_ rfl rfl rfl ?_ | refine t_ rfl rfl rfl rfl ?_ | refine k_ rfl rfl rfl ?_ | refine k0_ rfl rfl ?_ | refine c_ rfl rfl rfl rfl ?_ | refine pick_t rfl rfl rfl rfl rfl rfl rfl ?_ | refine pick_f rfl rfl rfl rfl rfl rfl rfl ?_ | refine aw_seq ?_ | refine aw_region tab_ok _ rfl ?_ | refine aw_drawn2 tabS_ok _ rfl mixed (by decide +kernel) ?_ | refine aw_condT rfl ?_ | refine aw_condF rfl ?_ | refine aw_block ?_ | refine aw_exit ?_ | refine aw_ret ?_ | refine aw_skip ?_ | rw [List.length_map] | rw [mn_norm] | rw [mx_norm])
        exact ⟨_, rfl, fits_mk ⟨rfl, rfl, rfl, (by simp only [List.map_append, List.map_cons, List.map_nil, List.nil_append] <;> rfl), rfl, rfl, rfl, trivial⟩ [_, _] (by simp only [List.length_append, List.length_cons, List.length_nil, Nat.zero_add, List.map_append, List.map_cons, List.map_nil] <;> rfl) ⟨trivial, by show 0 < 3; omega, by show 1 < 3; omega, by show 2 < 3; omega, trivial, trivial, trivial, trivial⟩ ⟨ob_below (by rfl), ob_below (by rfl), trivial, trivial⟩⟩
      · replace hb1 := cnd_f q_11 hb1
        obtain rfl := Option.some.inj hb1
        repeat' (first | refine p_ rfl rfl rfl rfl rfl ?_ | refine st_nil ?_ | refine x_ rfl rfl rfl rfl rfl rfl rfl rfl ?_ | refine l_ rfl rfl rfl rfl ?_ | refine s_ rfl rfl rfl ?_ | refine t_ rfl rfl rfl rfl ?_ | refine k_ rfl rfl rfl ?_ | refine k0_ rfl rfl ?_ | refine c_ rfl rfl rfl rfl ?_ | refine pick_t rfl rfl rfl rfl rfl rfl rfl ?_ | refine pick_f rfl rfl rfl rfl rfl rfl rfl ?_ | refine aw_seq ?_ | refine aw_region tab_ok _ rfl ?_ | refine aw_drawn2 tabS_ok _ rfl mixed (by decide +kernel) ?_ | refine aw_condT rfl ?_ | refine aw_condF rfl ?_ | refine aw_block ?_ | refine aw_exit ?_ | refine aw_ret ?_ | refine aw_skip ?_ | rw [List.length_map] | rw [mn_norm] | rw [mx_norm])
        exact ⟨_, rfl, fits_mk ⟨rfl, rfl, rfl, (by simp only [List.map_append, List.map_cons, List.map_nil, List.nil_append] <;> rfl), rfl, rfl, rfl, trivial⟩ [_, _] (by simp only [List.length_append, List.length_cons, List.length_nil, Nat.zero_add, List.map_append, List.map_cons, List.map_nil] <;> rfl) ⟨trivial, by show 0 < 3; omega, by show 1 < 3; omega, by show 2 < 3; omega, trivial, trivial, trivial, trivial⟩ ⟨ob_below (by rfl), ob_below (by rfl), trivial, trivial⟩⟩
  · replace hb1 := cnd_f q_3 hb1
    obtain rfl := Option.some.inj hb1
    have hx1 : gShiftP_K1 a_r (.inl (out_1, v_2)) = some _ := hk1
    unfold gShiftP_K1 at hx1
    dsimp only at hx1
    obtain ⟨r_12, c8, hx1⟩ := bind_some hx1
    replace c8 := gRelation_ok c8
    try simp only [List.map_append, List.map_cons, List.map_nil, List.nil_append, tE_eq] at c8
    obtain rfl := Option.some.inj hx1
    exact go_
end
end Go.Proofs.YtfccopdbgfdcdaaGreatDoor
namespace Go.Proofs.YtfccopdbgfdcdaaGreatDoor
open Go.RowKit Go.MapKept
set_option maxRecDepth 100000
set_option maxHeartbeats 8000000
set_option linter.unusedVariables false
set_option linter.unusedSimpArgs false
noncomputable section
def gShiftR_B1 (a_r : Rln) (a_n : Int) : ((List Fct) × Int) → Option (Step ((List Fct) × Int) (Rln)) := fun s => match s with
  | (l_1, i_2) => bif (decide (i_2 < ((a_r.facts.length : Nat) : Int))) then
    (getI a_r.facts i_2).bind fun x_4 => bif (decide (x_4.valid.hi < (1099511627776 : Int))) then
      bif (decide ((mxI (0 : Int) (IntKind.i64.wrap (x_4.valid.lo + (mxI (-1099511627776 : Int) (mnI a_n (1099511627776 : Int)))))) < (mnI (1099511627776 : Int) (IntKind.i64.wrap (x_4.valid.hi + (mxI (-1099511627776 : Int) (mnI a_n (1099511627776 : Int)))))))) then
        bif (decide (l_1.length + 1 ≤ 3518437208883)) then (some (.next ((l_1 ++ [(⟨x_4.row, (⟨(mxI (0 : Int) (IntKind.i64.wrap (x_4.valid.lo + (mxI (-1099511627776 : Int) (mnI a_n (1099511627776 : Int)))))), (mnI (1099511627776 : Int) (IntKind.i64.wrap (x_4.valid.hi + (mxI (-1099511627776 : Int) (mnI a_n (1099511627776 : Int))))))⟩ : Per)⟩ : Fct)]), (IntKind.i64.wrap (i_2 + (1 : Int)))))) else none
      else
        some (.next (l_1, (IntKind.i64.wrap (i_2 + (1 : Int)))))
    else
      bif (decide ((mxI (0 : Int) (IntKind.i64.wrap (x_4.valid.lo + (mxI (-1099511627776 : Int) (mnI a_n (1099511627776 : Int)))))) < x_4.valid.hi)) then
        bif (decide (l_1.length + 1 ≤ 3518437208883)) then (some (.next ((l_1 ++ [(⟨x_4.row, (⟨(mxI (0 : Int) (IntKind.i64.wrap (x_4.valid.lo + (mxI (-1099511627776 : Int) (mnI a_n (1099511627776 : Int)))))), x_4.valid.hi⟩ : Per)⟩ : Fct)]), (IntKind.i64.wrap (i_2 + (1 : Int)))))) else none
      else
        some (.next (l_1, (IntKind.i64.wrap (i_2 + (1 : Int)))))
  else
    some (.exit (l_1, i_2))
def gShiftR_K1 (a_r : Rln) : Sum ((List Fct) × Int) (Rln) → Option ((Rln))
  | .inl (l_1, i_2) => (gBagR l_1).bind fun r_8 => some (⟨a_r.kinds, r_8⟩ : Rln)
  | .inr q => some q
def gShiftR (a_r : Rln) (a_n : Int) : Option (Rln) := (loopM (gShiftR_B1 a_r a_n) fuel ([], (0 : Int))).bind (gShiftR_K1 a_r)
theorem gShiftR_ok {a_r : Rln} {a_n : Int} {r : Rln} (H : gShiftR a_r a_n = some r) : Pure Tryz.prog 26 [.agg (cRln a_r), .one (.int .i64 a_n)] (.val (.agg (cRln r))) := by
  unfold gShiftR at H
  refine pure_of_aw tab_ok Tryz.func26 rfl rfl Tryz.ntmps26 (by simp) ?_
  simp only [argT, PV.av, List.map_cons, List.map_nil]
  repeat' (first | refine p_ rfl rfl rfl rfl rfl ?_ | refine st_nil ?_ | refine x_ rfl rfl rfl rfl rfl rfl rfl rfl ?_ | refine l_ rfl rfl rfl rfl ?_ | refine s_ rfl rfl rfl ?_ | refine t_ rfl rfl rfl rfl ?_ | refine k_ rfl rfl rfl ?_ | refine k0_ rfl rfl ?_ | refine c_ rfl rfl rfl rfl ?_ | refine pick_t rfl rfl rfl rfl rfl rfl rfl ?_ | refine pick_f rfl rfl rfl rfl rfl rfl rfl ?_ | refine aw_seq ?_ | refine aw_region tab_ok _ rfl ?_ | refine aw_drawn2 tabS_ok _ rfl mixed (by decide +kernel) ?_ | refine aw_condT rfl ?_ | refine aw_condF rfl ?_ | refine aw_block ?_ | refine aw_exit ?_ | refine aw_ret ?_ | refine aw_skip ?_ | rw [List.length_map] | rw [mn_norm] | rw [mx_norm])
  refine aw_tok 5 3 rfl ?_
  refine aw_loopM (fun s : (List Fct) × Int => match s with | (l_1, i_2) => [(1, .one (.c (.int .i64 (mxI (-1099511627776 : Int) (mnI a_n (1099511627776 : Int)))))), (2, .one (.ptr 0 0)), (4, .one (.ptr 1 0)), (5, .one (.own (l_1.map cFct) 2)), (6, .one (.c (.int .i64 i_2)))]) (fun s => match s with | (l_1, i_2) => [.box [.c (.lst (a_r.kinds.map (fun x => [AC.int .i64 x]))), .c (.lst (a_r.facts.map cFct))], .box [.emp, .emp], .spare l_1.length 3]) H (fun _ => Nat.zero_le _)
    (fits_mk ⟨rfl, rfl, rfl, rfl, rfl, trivial⟩ [] rfl ⟨trivial, by show 0 < 3; omega, by show 1 < 3; omega, by show 2 < 3; omega, trivial, trivial⟩ ⟨ob_below (by rfl), ob_below (by rfl), trivial, trivial⟩) ?_
  rintro ⟨l_1, i_2⟩ st1 hb1 hk1
  unfold gShiftR_B1 at hb1
  dsimp only at hb1 ⊢
  rcases Bool.eq_false_or_eq_true (decide (i_2 < ((a_r.facts.length : Nat) : Int))) with q_3 | q_3
  · replace hb1 := cnd_t q_3 hb1
    obtain ⟨x_4, i1, hb1⟩ := bind_some hb1
    obtain ⟨i1z, i1⟩ := getI_some i1
    have i1x := idxI (f := cFct) i1
    rcases Bool.eq_false_or_eq_true (decide (x_4.valid.hi < (1099511627776 : Int))) with q_5 | q_5
    · replace hb1 := cnd_t q_5 hb1
      rcases Bool.eq_false_or_eq_true (decide ((mxI (0 : Int) (IntKind.i64.wrap (x_4.valid.lo + (mxI (-1099511627776 : Int) (mnI a_n (1099511627776 : Int)))))) < (mnI (1099511627776 : Int) (IntKind.i64.wrap (x_4.valid.hi + (mxI (-1099511627776 : Int) (mnI a_n (1099511627776 : Int)))))))) with q_6 | q_6
      · replace hb1 := cnd_t q_6 hb1
        obtain ⟨g2, hb1⟩ := grd_some hb1
        replace g2 := of_decide_eq_true g2
        obtain rfl := Option.some.inj hb1
        repeat' (first | refine p_ rfl rfl rfl rfl rfl ?_ | refine st_nil ?_ | refine x_ rfl rfl rfl rfl rfl rfl rfl rfl ?_ | refine l_ rfl rfl rfl rfl ?_ | refine s_ rfl rfl rfl ?_ | refine t_ rfl rfl rfl rfl ?_ | refine k_ rfl rfl rfl ?_ | refine k0_ rfl rfl ?_ | refine c_ rfl rfl rfl rfl ?_ | refine pick_t rfl rfl rfl rfl rfl rfl rfl ?_ | refine pick_f rfl rfl rfl rfl rfl rfl rfl ?_ | refine aw_seq ?_ | refine aw_region tab_ok _ rfl ?_ | refine aw_drawn2 tabS_ok _ rfl mixed (by decide +kernel) ?_ | refine aw_condT rfl ?_ | refine aw_condF rfl ?_ | refine aw_block ?_ | refine aw_exit ?_ | refine aw_ret ?_ | refine aw_skip ?_ | rw [List.length_map] | rw [mn_norm] | rw [mx_norm])
        exact ⟨_, rfl, fits_mk ⟨rfl, rfl, rfl, (by simp only [List.map_append, List.map_cons, List.map_nil, List.nil_append] <;> rfl), rfl, trivial⟩ [_] (by simp only [List.length_append, List.length_cons, List.length_nil, Nat.zero_add, List.map_append, List.map_cons, List.map_nil] <;> rfl) ⟨trivial, by show 0 < 3; omega, by show 1 < 3; omega, by show 2 < 3; omega, trivial, trivial⟩ ⟨ob_below (by rfl), ob_below (by rfl), trivial, trivial⟩⟩
      · replace hb1 := cnd_f q_6 hb1
        obtain rfl := Option.some.inj hb1
        repeat' (first | refine p_ rfl rfl rfl rfl rfl ?_ | refine st_nil ?_ | refine x_ rfl rfl rfl rfl rfl rfl rfl rfl ?_ | refine l_ rfl rfl rfl rfl ?_ | refine s_ rfl rfl rfl ?_ | refine t_ rfl rfl rfl rfl ?_ | refine k_ rfl rfl rfl ?_ | refine k0_ rfl rfl ?_ | refine c_ rfl rfl rfl rfl ?_ | refine pick_t rfl rfl rfl rfl rfl rfl rfl ?_ | refine pick_f rfl rfl rfl rfl rfl rfl rfl ?_ | refine aw_seq ?_ | refine aw_region tab_ok _ rfl ?_ | refine aw_drawn2 tabS_ok _ rfl mixed (by decide +kernel) ?_ | refine aw_condT rfl ?_ | refine aw_condF rfl ?_ | refine aw_block ?_ | refine aw_exit ?_ | refine aw_ret ?_ | refine aw_skip ?_ | rw [List.length_map] | rw [mn_norm] | rw [mx_norm])
        exact ⟨_, rfl, fits_mk ⟨rfl, rfl, rfl, (by simp only [List.map_append, List.map_cons, List.map_nil, List.nil_append] <;> rfl), rfl, trivial⟩ [_] (by simp only [List.length_append, List.length_cons, List.length_nil, Nat.zero_add, List.map_append, List.map_cons, List.map_nil] <;> rfl) ⟨trivial, by show 0 < 3; omega, by show 1 < 3; omega, by show 2 < 3; omega, trivial, trivial⟩ ⟨ob_below (by rfl), ob_below (by rfl), trivial, trivial⟩⟩
    · replace hb1 := cnd_f q_5 hb1
      rcases Bool.eq_false_or_eq_true (decide ((mxI (0 : Int) (IntKind.i64.wrap (x_4.valid.lo + (mxI (-1099511627776 : Int) (mnI a_n (1099511627776 : Int)))))) < x_4.valid.hi)) with q_7 | q_7
      · replace hb1 := cnd_t q_7 hb1
        obtain ⟨g3, hb1⟩ := grd_some hb1
        replace g3 := of_decide_eq_true g3
        obtain rfl := Option.some.inj hb1
        repeat' (first | refine p_ rfl rfl rfl rfl rfl ?_ | refine st_nil ?_ | refine x_ rfl rfl rfl rfl rfl rfl rfl rfl ?_ | refine l_ rfl rfl rfl rfl ?_ | refine s_ rfl rfl rfl ?_ | refine t_ rfl rfl rfl rfl ?_ | refine k_ rfl rfl rfl ?_ | refine k0_ rfl rfl ?_ | refine c_ rfl rfl rfl rfl ?_ | refine pick_t rfl rfl rfl rfl rfl rfl rfl ?_ | refine pick_f rfl rfl rfl rfl rfl rfl rfl ?_ | refine aw_seq ?_ | refine aw_region tab_ok _ rfl ?_ | refine aw_drawn2 tabS_ok _ rfl mixed (by decide +kernel) ?_ | refine aw_condT rfl ?_ | refine aw_condF rfl ?_ | refine aw_block ?_ | refine aw_exit ?_ | refine aw_ret ?_ | refine aw_skip ?_ | rw [List.length_map] | rw [mn_norm] | rw [mx_norm])
        exact ⟨_, rfl, fits_mk ⟨rfl, rfl, rfl, (by simp only [List.map_append, List.map_cons, List.map_nil, List.nil_append] <;> rfl), rfl, trivial⟩ [_] (by simp only [List.length_append, List.length_cons, List.length_nil, Nat.zero_add, List.map_append, List.map_cons, List.map_nil] <;> rfl) ⟨trivial, by show 0 < 3; omega, by show 1 < 3; omega, by show 2 < 3; omega, trivial, trivial⟩ ⟨ob_below (by rfl), ob_below (by rfl), trivial, trivial⟩⟩
      · replace hb1 := cnd_f q_7 hb1
        obtain rfl := Option.some.inj hb1
        repeat' (first | refine p_ rfl rfl rfl rfl rfl ?_ | refine st_nil ?_ | refine x_ rfl rfl rfl rfl rfl rfl rfl rfl ?_ | refine l_ rfl rfl rfl rfl ?_ | refine s_ rfl rfl rfl ?_ | refine t_ rfl rfl rfl rfl ?_ | refine k_ rfl rfl rfl ?_ | refine k0_ rfl rfl ?_ | refine c_ rfl rfl rfl rfl ?_ | refine pick_t rfl rfl rfl rfl rfl rfl rfl ?_ | refine pick_f rfl rfl rfl rfl rfl rfl rfl ?_ | refine aw_seq ?_ | refine aw_region tab_ok _ rfl ?_ | refine aw_drawn2 tabS_ok _ rfl mixed (by decide +kernel) ?_ | refine aw_condT rfl ?_ | refine aw_condF rfl ?_ | refine aw_block ?_ | refine aw_exit ?_ | refine aw_ret ?_ | refine aw_skip ?_ | rw [List.length_map] | rw [mn_norm] | rw [mx_norm])
        exact ⟨_, rfl, fits_mk ⟨rfl, rfl, rfl, (by simp only [List.map_append, List.map_cons, List.map_nil, List.nil_append] <;> rfl), rfl, trivial⟩ [_] (by simp only [List.length_append, List.length_cons, List.length_nil, Nat.zero_add, List.map_append, List.map_cons, List.map_nil] <;> rfl) ⟨trivial, by show 0 < 3; omega, by show 1 < 3; omega, by show 2 < 3; omega, trivial, trivial⟩ ⟨ob_below (by rfl), ob_below (by rfl), trivial, trivial⟩⟩
  · replace hb1 := cnd_f q_3 hb1
    obtain rfl := Option.some.inj hb1
    have hx1 : gShiftR_K1 a_r (.inl (l_1, i_2)) = some _ := hk1
    unfold gShiftR_K1 at hx1
    dsimp only at hx1
    obtain ⟨r_8, c4, hx1⟩ := bind_some hx1
    replace c4 := gBagR_ok c4
    try simp only [List.map_append, List.map_cons, List.map_nil, List.nil_append, tE_eq] at c4
    obtain rfl := Option.some.inj hx1
    exact go_
def gSound_B1 (a_r : Rln) : (Int) → Option (Step (Int) (Bool)) := fun s => match s with
  | i_1 => bif (decide (i_1 < ((a_r.facts.length : Nat) : Int))) then
    (getI a_r.facts i_1).bind fun x_3 => (gValid1 x_3.valid).bind fun r_4 => bif (!r_4) then
      some (.ret false)
    else
      (gFits8 x_3.row a_r.kinds).bind fun r_6 => bif (!r_6) then
        some (.ret false)
      else
        some (.next (IntKind.i64.wrap (i_1 + (1 : Int))))
  else
    some (.exit i_1)
def gSound_K1 (a_r : Rln) : Sum (Int) (Bool) → Option ((Bool))
  | .inl i_1 => bif (decide ((0 : Int) < ((a_r.kinds.length : Nat) : Int))) then
    bif (decide (((a_r.kinds.length : Nat) : Int) ≤ (48 : Int))) then
      (gKinds a_r.kinds).bind fun r_10 => some r_10
    else
      some false
  else
    some false
  | .inr q => some q
def gSound (a_r : Rln) : Option (Bool) := (loopM (gSound_B1 a_r) fuel (0 : Int)).bind (gSound_K1 a_r)
theorem gSound_ok {a_r : Rln} {r : Bool} (H : gSound a_r = some r) : Pure Tryz.prog 37 [.agg (cRln a_r)] (.val (.one (.bool r))) := by
  unfold gSound at H
  refine pure_of_aw tab_ok Tryz.func37 rfl rfl Tryz.ntmps37 (by simp) ?_
  simp only [argT, PV.av, List.map_cons, List.map_nil]
  repeat' (first | refine p_ rfl rfl rfl rfl rfl ?_ | refine st_nil ?_ | refine x_ rfl rfl rfl rfl rfl rfl rfl rfl ?_ | refine l_ rfl rfl rfl rfl ?_ | refine s_ rfl rfl rfl ?_ | refine t_ rfl rfl rfl rfl ?_ | refine k_ rfl rfl rfl ?_ | refine k0_ rfl rfl ?_ | refine c_ rfl rfl rfl rfl ?_ | refine pick_t rfl rfl rfl rfl rfl rfl rfl ?_ | refine pick_f rfl rfl rfl rfl rfl rfl rfl ?_ | refine aw_seq ?_ | refine aw_region tab_ok _ rfl ?_ | refine aw_drawn2 tabS_ok _ rfl mixed (by decide +kernel) ?_ | refine aw_condT rfl ?_ | refine aw_condF rfl ?_ | refine aw_block ?_ | refine aw_exit ?_ | refine aw_ret ?_ | refine aw_skip ?_ | rw [List.length_map] | rw [mn_norm] | rw [mx_norm])
  refine aw_loopM (fun s : Int => match s with | i_1 => [(1, .one (.ptr 0 0)), (3, .one (.c (.int .i64 i_1)))]) (fun s => match s with | i_1 => [.box [.c (.lst (a_r.kinds.map (fun x => [AC.int .i64 x]))), .c (.lst (a_r.facts.map cFct))]]) H (fun _ => Nat.zero_le _)
    (fits_mk ⟨rfl, rfl, trivial⟩ [] rfl ⟨by show 0 < 1; omega, trivial, trivial⟩ ⟨ob_below (by rfl), trivial⟩) ?_
  rintro i_1 st1 hb1 hk1
  unfold gSound_B1 at hb1
  dsimp only at hb1 ⊢
  rcases Bool.eq_false_or_eq_true (decide (i_1 < ((a_r.facts.length : Nat) : Int))) with q_2 | q_2
  · replace hb1 := cnd_t q_2 hb1
    obtain ⟨x_3, i1, hb1⟩ := bind_some hb1
    obtain ⟨i1z, i1⟩ := getI_some i1
    have i1x := idxI (f := cFct) i1
    obtain ⟨r_4, c2, hb1⟩ := bind_some hb1
    replace c2 := gValid1_ok c2
    try simp only [List.map_append, List.map_cons, List.map_nil, List.nil_append, tE_eq] at c2
    rcases Bool.eq_false_or_eq_true (!r_4) with q_5 | q_5
    · replace hb1 := cnd_t q_5 hb1
      obtain rfl := Option.some.inj hb1
      have hx1 : gSound_K1 a_r (.inr false) = some _ := hk1
      unfold gSound_K1 at hx1
      dsimp only at hx1
      obtain rfl := Option.some.inj hx1
      exact go_
    · replace hb1 := cnd_f q_5 hb1
      obtain ⟨r_6, c3, hb1⟩ := bind_some hb1
      replace c3 := gFits8_ok c3
      try simp only [List.map_append, List.map_cons, List.map_nil, List.nil_append, tE_eq] at c3
      rcases Bool.eq_false_or_eq_true (!r_6) with q_7 | q_7
      · replace hb1 := cnd_t q_7 hb1
        obtain rfl := Option.some.inj hb1
        have hx1 : gSound_K1 a_r (.inr false) = some _ := hk1
        unfold gSound_K1 at hx1
        dsimp only at hx1
        obtain rfl := Option.some.inj hx1
        exact go_
      · replace hb1 := cnd_f q_7 hb1
        obtain rfl := Option.some.inj hb1
        repeat' (first | refine p_ rfl rfl rfl rfl rfl ?_ | refine st_nil ?_ | refine x_ rfl rfl rfl rfl rfl rfl rfl rfl ?_ | refine l_ rfl rfl rfl rfl ?_ | refine s_ rfl rfl rfl ?_ | refine t_ rfl rfl rfl rfl ?_ | refine k_ rfl rfl rfl ?_ | refine k0_ rfl rfl ?_ | refine c_ rfl rfl rfl rfl ?_ | refine pick_t rfl rfl rfl rfl rfl rfl rfl ?_ | refine pick_f rfl rfl rfl rfl rfl rfl rfl ?_ | refine aw_seq ?_ | refine aw_region tab_ok _ rfl ?_ | refine aw_drawn2 tabS_ok _ rfl mixed (by decide +kernel) ?_ | refine aw_condT rfl ?_ | refine aw_condF rfl ?_ | refine aw_block ?_ | refine aw_exit ?_ | refine aw_ret ?_ | refine aw_skip ?_ | rw [List.length_map] | rw [mn_norm] | rw [mx_norm])
        exact ⟨_, rfl, fits_mk ⟨rfl, rfl, trivial⟩ [] rfl ⟨by show 0 < 1; omega, trivial, trivial⟩ ⟨ob_below (by rfl), trivial⟩⟩
  · replace hb1 := cnd_f q_2 hb1
    obtain rfl := Option.some.inj hb1
    have hx1 : gSound_K1 a_r (.inl i_1) = some _ := hk1
    unfold gSound_K1 at hx1
    dsimp only at hx1
    rcases Bool.eq_false_or_eq_true (decide ((0 : Int) < ((a_r.kinds.length : Nat) : Int))) with q_8 | q_8
    · replace hx1 := cnd_t q_8 hx1
      rcases Bool.eq_false_or_eq_true (decide (((a_r.kinds.length : Nat) : Int) ≤ (48 : Int))) with q_9 | q_9
      · replace hx1 := cnd_t q_9 hx1
        obtain ⟨r_10, c4, hx1⟩ := bind_some hx1
        replace c4 := gKinds_ok c4
        try simp only [List.map_append, List.map_cons, List.map_nil, List.nil_append, tE_eq] at c4
        obtain rfl := Option.some.inj hx1
        exact go_
      · replace hx1 := cnd_f q_9 hx1
        obtain rfl := Option.some.inj hx1
        exact go_
    · replace hx1 := cnd_f q_8 hx1
      obtain rfl := Option.some.inj hx1
      exact go_
def gAlike (a_a : Rln) (a_b : Rln) : Option (Bool) := (gSameKinds a_a.kinds a_b.kinds).bind fun r_1 => bif r_1 then
  (gIdent a_a.facts a_b.facts).bind fun r_3 => some r_3
 else
  some false
theorem gAlike_ok {a_a : Rln} {a_b : Rln} {r : Bool} (H : gAlike a_a a_b = some r) : Pure Tryz.prog 15 [.agg (cRln a_a), .agg (cRln a_b)] (.val (.one (.bool r))) := by
  unfold gAlike at H
  refine pure_of_aw tab_ok Tryz.func15 rfl rfl Tryz.ntmps15 (by simp) ?_
  simp only [argT, PV.av, List.map_cons, List.map_nil]
  obtain ⟨r_1, c1, H⟩ := bind_some H
  replace c1 := gSameKinds_ok c1
  try simp only [List.map_append, List.map_cons, List.map_nil, List.nil_append, tE_eq] at c1
  rcases Bool.eq_false_or_eq_true r_1 with q_2 | q_2
  · replace H := cnd_t q_2 H
    obtain ⟨r_3, c2, H⟩ := bind_some H
    replace c2 := gIdent_ok c2
    try simp only [List.map_append, List.map_cons, List.map_nil, List.nil_append, tE_eq] at c2
    obtain rfl := Option.some.inj H
    exact go_
  · replace H := cnd_f q_2 H
    obtain rfl := Option.some.inj H
    exact go_
def gFew23 (a_r : Rln) : Option (Bool) := bif (decide (((a_r.facts.length : Nat) : Int) ≤ (16 : Int))) then
  bif (decide (((a_r.kinds.length : Nat) : Int) ≤ (48 : Int))) then
    (gSound a_r).bind fun r_3 => some r_3
  else
    some false
 else
  some false
theorem gFew23_ok {a_r : Rln} {r : Bool} (H : gFew23 a_r = some r) : Pure Tryz.prog 12 [.agg (cRln a_r)] (.val (.one (.bool r))) := by
  unfold gFew23 at H
  refine pure_of_aw tab_ok Tryz.func12 rfl rfl Tryz.ntmps12 (by simp) ?_
  simp only [argT, PV.av, List.map_cons, List.map_nil]
  rcases Bool.eq_false_or_eq_true (decide (((a_r.facts.length : Nat) : Int) ≤ (16 : Int))) with q_1 | q_1
  · replace H := cnd_t q_1 H
    rcases Bool.eq_false_or_eq_true (decide (((a_r.kinds.length : Nat) : Int) ≤ (48 : Int))) with q_2 | q_2
    · replace H := cnd_t q_2 H
      obtain ⟨r_3, c1, H⟩ := bind_some H
      replace c1 := gSound_ok c1
      try simp only [List.map_append, List.map_cons, List.map_nil, List.nil_append, tE_eq] at c1
      obtain rfl := Option.some.inj H
      exact go_
    · replace H := cnd_f q_2 H
      obtain rfl := Option.some.inj H
      exact go_
  · replace H := cnd_f q_1 H
    obtain rfl := Option.some.inj H
    exact go_
end
end Go.Proofs.YtfccopdbgfdcdaaGreatDoor
namespace Go.Proofs.YtfccopdbgfdcdaaGreatDoor.St
open Go.RowKit

theorem Asc.of_list {l : List (Int × Int)} (h : l.Pairwise fun x y => x.1 < y.1) : Asc l := by
  intro i j x y hij hx hy
  obtain ⟨hi, rfl⟩ := List.getElem?_eq_some_iff.1 hx
  obtain ⟨hj, rfl⟩ := List.getElem?_eq_some_iff.1 hy
  exact List.pairwise_iff_getElem.1 h i j hi hj hij
theorem validFrom_asc : ∀ {l : List (Int × Int)} {p : Int × Int}, validFrom p l = true → (p :: l).Pairwise (fun x y => x.1 < y.1) ∧ ∀ s ∈ l, s.1 < 1099511627776
  | [], p, _ => ⟨by simp, by simp⟩
  | q :: r, p, h => by
    simp only [validFrom, Bool.and_eq_true] at h
    obtain ⟨h1, h2⟩ := validFrom_asc (l := r) (p := q) h.2
    have hs : p.1 < q.1 ∧ q.1 < 1099511627776 := by have := h.1; simp [stepOk] at this; omega
    refine ⟨List.pairwise_cons.2 ⟨fun y hy => ?_, h1⟩, fun s hs' => ?_⟩
    · rcases List.mem_cons.1 hy with e | e
      · subst e; exact hs.1
      · have := (List.pairwise_cons.1 h1).1 y e; omega
    · rcases List.mem_cons.1 hs' with e | e
      · subst e; exact hs.2
      · exact h2 s e
theorem svalid_asc {l : List (Int × Int)} (h : svalid l = true) : Asc l ∧ (∀ s ∈ l, s.1 < 1099511627776) ∧ l ≠ [] ∧ ∀ x, l[0]? = some x → x.1 = 0 := by
  match l, h with
  | p :: r, h =>
    simp only [svalid, Bool.and_eq_true, beq_iff_eq] at h
    obtain ⟨h1, h2⟩ := validFrom_asc h.2
    refine ⟨Asc.of_list h1, fun s hs => ?_, by simp, fun x hx => ?_⟩
    · rcases List.mem_cons.1 hs with e | e
      · subst e; omega
      · exact h2 s e
    · simp at hx; subst hx; exact h.1

def lastV (z : Int) (l : List (Int × Int)) (t : Int) : Int := l.foldl (fun n s => if s.1 ≤ t then s.2 else n) z
theorem rat_in {l : List (Int × Int)} {t : Int} (h1 : 0 ≤ t) (h2 : t < 1099511627776) : rat l t = lastV 0 l t := by unfold rat; rw [if_pos ⟨h1, h2⟩]; rfl
theorem lastV_cons (z : Int) (p : Int × Int) (l : List (Int × Int)) (t : Int) : lastV z (p :: l) t = lastV (if p.1 ≤ t then p.2 else z) l t := rfl
theorem lastV_skip {z : Int} {l : List (Int × Int)} {t : Int} (h : ∀ x ∈ l, t < x.1) : lastV z l t = z := fold_skip t l z h
theorem lastV_snoc (z : Int) (l : List (Int × Int)) (q : Int × Int) (t : Int) : lastV z (l ++ [q]) t = if q.1 ≤ t then q.2 else lastV z l t := by unfold lastV; rw [List.foldl_append]; rfl
theorem svalid_snoc {u : List (Int × Int)} {x y : Int} {q : Int × Int} (hu : svalid u = true) (hl : u.getLast? = some (x, y)) (h1 : x < q.1) (h2 : q.1 < 1099511627776) (h3 : q.2 ≠ y) : svalid (u ++ [q]) = true := by
  match u, hu with
  | p :: r, hu =>
    simp only [svalid, Bool.and_eq_true, beq_iff_eq] at hu
    simp only [List.cons_append, svalid, Bool.and_eq_true, beq_iff_eq]
    refine ⟨hu.1, ?_⟩
    have he : (p :: r).getLast (by simp) = (x, y) := by
      rw [List.getLast?_eq_some_getLast (by simp)] at hl
      exact Option.some.inj hl
    rw [validFrom_snoc, hu.2, he]
    unfold stepOk
    simp [h1, h2, h3]
theorem lastV_end {u : List (Int × Int)} (ha : Asc u) {x y t : Int} (hl : u.getLast? = some (x, y)) (ht : x ≤ t) (z : Int) : lastV z u t = y := by
  have hne : u ≠ [] := by intro e; subst e; simp at hl
  have hu : u = u.dropLast ++ [(x, y)] := by
    have h1 := List.dropLast_concat_getLast hne
    rw [List.getLast?_eq_some_getLast hne] at hl
    rw [← Option.some.inj hl]; exact h1.symm
  rw [hu, lastV_snoc, if_pos ht]
theorem put_val {u : List (Int × Int)} (ha : Asc u) {x y p v : Int} (hl : u.getLast? = some (x, y)) (hp : x < p) (z t : Int) : lastV z (putS u (p, v)) t = if p ≤ t then v else lastV z u t := by
  unfold putS
  rw [hl]
  simp only [Option.map_some, Option.some.injEq]
  by_cases e : y = v
  · rw [if_pos e]
    split
    · rw [lastV_end ha hl (by omega), e]
    · rfl
  · rw [if_neg e, lastV_snoc]
theorem put_valid {u : List (Int × Int)} {x y p v : Int} (hu : svalid u = true) (hl : u.getLast? = some (x, y)) (hp : x < p) (hF : p < 1099511627776) : svalid (putS u (p, v)) = true ∧ ∃ x' y', (putS u (p, v)).getLast? = some (x', y') ∧ x' ≤ p := by
  unfold putS
  rw [hl]
  simp only [Option.map_some, Option.some.injEq]
  by_cases e : y = v
  · rw [if_pos e]; exact ⟨hu, x, y, hl, by omega⟩
  · rw [if_neg e]; exact ⟨svalid_snoc hu hl hp hF (fun h => e h.symm), p, v, by simp, Int.le_refl _⟩
theorem comb_foldF (f : Int → Int) : ∀ (P : List Int) (u : List (Int × Int)) (x y : Int), svalid u = true → u.getLast? = some (x, y) → (∀ p ∈ P, x < p ∧ p < 1099511627776) → SAsc P →
    svalid (P.foldl (fun acc p => putS acc (p, f p)) u) = true ∧ ∀ z t, lastV z (P.foldl (fun acc p => putS acc (p, f p)) u) t = lastV (lastV z u t) (P.map fun p => (p, f p)) t
  | [], u, x, y, hu, hl, _, _ => ⟨hu, fun z t => rfl⟩
  | p :: P, u, x, y, hu, hl, hP, hA => by
    obtain ⟨h1, h2⟩ := hP p (by simp)
    obtain ⟨g1, x', y', g2, g3⟩ := put_valid (v := f p) hu hl h1 h2
    obtain ⟨k1, k2⟩ := comb_foldF f P (putS u (p, f p)) x' y' g1 g2 (fun q hq => ⟨by have := hA.head q hq; omega, (hP q (by simp [hq])).2⟩) hA.tail
    refine ⟨k1, fun z t => ?_⟩
    rw [List.foldl_cons, k2, put_val (svalid_asc hu).1 hl h1, List.map_cons, lastV_cons]
theorem comb_spec (f : Int → Int) {P : List Int} (hA : SAsc P) (h0 : P.head? = some 0) (hF : ∀ p ∈ P, p < 1099511627776) : svalid (combS f P) = true ∧ ∀ z t, lastV z (combS f P) t = lastV z (P.map fun p => (p, f p)) t := by
  match P, h0 with
  | p :: P, h0 =>
    simp at h0
    subst h0
    have h1 := comb_foldF f P [(0, f 0)] 0 (f 0) rfl rfl (fun q hq => ⟨hA.head q hq, hF q (by simp [hq])⟩) hA.tail
    have h2 : combS f (0 :: P) = P.foldl (fun acc p => putS acc (p, f p)) [(0, f 0)] := rfl
    rw [h2]
    refine ⟨h1.1, fun z t => ?_⟩
    rw [h1.2, List.map_cons, lastV_cons]
    rfl
def Const (g : Int → Int) (P : List Int) : Prop := ∀ t p, 0 ≤ t → t < 1099511627776 → p ∈ P → p ≤ t → (∀ q ∈ P, q ≤ t → q ≤ p) → g t = g p
theorem lastV_map (g : Int → Int) : ∀ (P : List Int) (z t : Int), SAsc P → (∃ p ∈ P, p ≤ t) → ∃ p ∈ P, p ≤ t ∧ (∀ q ∈ P, q ≤ t → q ≤ p) ∧ lastV z (P.map fun p => (p, g p)) t = g p
  | [], z, t, _, ⟨p, hp, _⟩ => by simp at hp
  | a :: P, z, t, hA, ⟨p, hp, hpt⟩ => by
    have hat : a ≤ t := by
      rcases List.mem_cons.1 hp with e | e
      · omega
      · have := hA.head p e; omega
    rw [List.map_cons, lastV_cons, if_pos hat]
    by_cases h : ∃ q ∈ P, q ≤ t
    · obtain ⟨q, h1, h2, h3, h4⟩ := lastV_map g P (g a) t hA.tail h
      refine ⟨q, by simp [h1], h2, fun r hr hrt => ?_, h4⟩
      rcases List.mem_cons.1 hr with e | e
      · have := hA.head q h1; omega
      · exact h3 r e hrt
    · refine ⟨a, by simp, hat, fun r hr hrt => ?_, ?_⟩
      · rcases List.mem_cons.1 hr with e | e
        · omega
        · exact absurd ⟨r, e, hrt⟩ h
      · refine lastV_skip fun x hx => ?_
        obtain ⟨q, hq, e⟩ := List.mem_map.1 hx
        subst e
        exact Int.not_le.1 fun hh => h ⟨q, hq, hh⟩
theorem comb_rat (g : Int → Int) {P : List Int} (hA : SAsc P) (h0 : P.head? = some 0) (hF : ∀ p ∈ P, p < 1099511627776) (hC : Const g P) {t : Int} (t1 : 0 ≤ t) (t2 : t < 1099511627776) : rat (combS g P) t = g t := by
  rw [rat_in t1 t2, (comb_spec g hA h0 hF).2]
  have h0m : (0 : Int) ∈ P := List.mem_of_mem_head? h0
  obtain ⟨p, h1, h2, h3, h4⟩ := lastV_map g P 0 t hA ⟨0, h0m, t1⟩
  rw [h4, hC t p t1 t2 h1 h2 h3]
theorem head_zero {P : List Int} (hA : SAsc P) (h0 : (0 : Int) ∈ P) (hp : ∀ p ∈ P, 0 ≤ p) : P.head? = some 0 := by
  match P, h0 with
  | a :: P, h0 =>
    have ha := hp a (by simp)
    rcases List.mem_cons.1 h0 with e | e
    · rw [← e]; rfl
    · have := hA.head 0 e; omega
theorem svalid_nonneg {l : List (Int × Int)} (h : svalid l = true) : ∀ s ∈ l, 0 ≤ s.1 := by
  obtain ⟨h1, _, h3, h4⟩ := svalid_asc h
  intro s hs
  obtain ⟨i, hi, e⟩ := List.mem_iff_getElem.1 hs
  have hpos : 0 < l.length := by omega
  have h0 := h4 l[0] (List.getElem?_eq_getElem hpos)
  by_cases e0 : i = 0
  · subst e0; rw [← e]; omega
  · have := h1 0 i _ _ (by omega) (List.getElem?_eq_getElem hpos) (List.getElem?_eq_getElem hi)
    rw [e] at this; omega
theorem of_ok (l : List ((Int × Int) × Int)) : svalid (combS (rsum l) (ofPts l)) = true ∧ ∀ t, 0 ≤ t → t < 1099511627776 → rat (combS (rsum l) (ofPts l)) t = rsum l t := by
  obtain ⟨h1, h2⟩ := ofPts_spec l
  have hnn : ∀ p ∈ ofPts l, 0 ≤ p := by
    intro p hp
    rcases ((h2 p).1 hp).1 with e | ⟨y, hy⟩
    · omega
    · exact (chg_range (p, y) hy).1
  have h0 : (ofPts l).head? = some 0 := head_zero h1 ((h2 0).2 ⟨.inl rfl, by omega⟩) hnn
  have hF : ∀ p ∈ ofPts l, p < 1099511627776 := fun p hp => ((h2 p).1 hp).2
  have hC : Const (rsum l) (ofPts l) := by
    intro t p t1 t2 hp hpt hmax
    rw [rsum_eq, rsum_eq]
    congr 1
    unfold isum
    congr 1
    refine List.map_congr_left fun c hc => ?_
    have hiff : pcontains c.1 t = pcontains c.1 p := by
      unfold pcontains
      by_cases hv : pvalid c.1 = true
      · have hm : ∀ q, q = c.1.1 ∨ q = c.1.2 → q ≤ t → q ≤ p := by
          intro q hq hqt
          refine hmax q ((h2 q).2 ⟨.inr ?_, by omega⟩) hqt
          rcases hq with e | e
          · exact ⟨c.2, List.mem_flatMap.2 ⟨c, hc, by unfold chg1; rw [if_pos hv]; simp [e]⟩⟩
          · exact ⟨wrap64 (-c.2), List.mem_flatMap.2 ⟨c, hc, by unfold chg1; rw [if_pos hv]; simp [e]⟩⟩
        have m1 := hm c.1.1 (.inl rfl)
        have m2 := hm c.1.2 (.inr rfl)
        rw [hv, Bool.true_and, Bool.true_and, Bool.eq_iff_iff]
        simp only [Bool.and_eq_true, decide_eq_true_eq]
        constructor
        · rintro ⟨u1, u2⟩; exact ⟨m1 u1, by omega⟩
        · rintro ⟨u1, u2⟩
          refine ⟨by omega, Int.not_le.1 fun hh => ?_⟩
          have := m2 hh; omega
      · have : pvalid c.1 = false := by simpa using hv
        rw [this]; simp
    rw [hiff]
  exact ⟨(comb_spec _ h1 h0 hF).1, fun t t1 t2 => comb_rat _ h1 h0 hF hC t1 t2⟩
end Go.Proofs.YtfccopdbgfdcdaaGreatDoor.St
namespace Go.Proofs.YtfccopdbgfdcdaaGreatDoor.St
open Go.RowKit

def cnt (X : List (Int × Int)) (t : Int) : Int := (X.map fun p => if pcontains p t then (1 : Int) else 0).sum
def onesP (X : List (Int × Int)) : List ((Int × Int) × Int) := X.map fun p => (p, 1)
theorem isum_onesF (X : List (Int × Int)) (t : Int) : isum (onesP X) t = cnt X t := by
  unfold isum onesP cnt; rw [List.map_map]; rfl
end Go.Proofs.YtfccopdbgfdcdaaGreatDoor.St
namespace Go.Proofs.YtfccopdbgfdcdaaGreatDoor
open Go.RowKit
set_option linter.unusedVariables false
set_option linter.unusedSimpArgs false
def contB (p : Per) (t : Int) : Bool := St.pcontains (toP p) t
theorem contB_eq (p : Per) (t : Int) : contB p t = (St.pvalid (toP p) && (decide (p.lo ≤ t) && decide (t < p.hi))) := Bool.and_assoc _ _ _
def cntP (ps : List Per) (t : Int) : Nat := (ps.filter fun p => contB p t).length
theorem cnt_nat (ps : List Per) (t : Int) : St.cnt (ps.map toP) t = (cntP ps t : Int) := by
  unfold St.cnt cntP
  induction ps with
  | nil => rfl
  | cons p ps ih =>
    rw [List.map_cons, List.map_cons, List.sum_cons, ih, List.filter_cons]
    unfold contB
    by_cases h : St.pcontains (toP p) t = true
    · rw [if_pos h, if_pos h, List.length_cons]; omega
    · rw [if_neg h, if_neg h]; omega
theorem cntP_cons (p : Per) (ps : List Per) (t : Int) : cntP (p :: ps) t = (if contB p t = true then 1 else 0) + cntP ps t := by
  unfold cntP
  rw [List.filter_cons]
  split <;> simp <;> omega
theorem cntP_le (ps : List Per) (t : Int) : cntP ps t ≤ ps.length := List.length_filter_le _ _
def stepsOf (ps : List Per) : List (Int × Int) := St.ofL ((ones ps).map toC)
theorem ones_P (ps : List Per) : (ones ps).map toC = St.onesP (ps.map toP) := by
  unfold ones St.onesP
  rw [List.map_map, List.map_map]; rfl
theorem lev_P (ps : List Per) : (levOf ps).map toP = St.levM (stepsOf ps) := by
  unfold levOf levV ofV stepsOf
  rw [List.map_map, List.map_map]
  have e1 : (toP ∘ ofP) = id := by funext x; rfl
  have e2 : (toS ∘ ofS) = id := by funext x; rfl
  rw [e1, e2, List.map_id, List.map_id]
theorem steps_valid (ps : List Per) : St.svalid (stepsOf ps) = true := (St.of_ok _).1
def begP (ps : List Per) (x : Int) : Nat := (ps.filter fun p => St.pvalid (toP p) && decide (p.lo ≤ x)).length
theorem begP_cons (p : Per) (ps : List Per) (t : Int) : begP (p :: ps) t = (if (St.pvalid (toP p) && decide (p.lo ≤ t)) = true then 1 else 0) + begP ps t := by
  unfold begP
  rw [List.filter_cons]
  split <;> simp <;> omega
theorem beg_step {x y : Int} (h : x < y) : ∀ ps : List Per, cntP ps y + begP ps x ≤ cntP ps x + begP ps y
  | [] => by simp [cntP, begP]
  | p :: ps => by
    have ih := beg_step h ps
    rw [cntP_cons, cntP_cons, begP_cons, begP_cons]
    have : (if contB p y = true then 1 else 0) + (if (St.pvalid (toP p) && decide (p.lo ≤ x)) = true then 1 else 0) ≤ (if contB p x = true then 1 else 0) + (if (St.pvalid (toP p) && decide (p.lo ≤ y)) = true then 1 else 0) := by
      rw [contB_eq, contB_eq]
      cases hv : St.pvalid (toP p)
      · simp
      · simp only [Bool.true_and, Bool.and_eq_true, decide_eq_true_eq]
        split <;> split <;> split <;> split <;> omega
    omega
theorem cnt_beg (ps : List Per) (x : Int) : cntP ps x ≤ begP ps x := by
  induction ps with
  | nil => simp [cntP, begP]
  | cons p ps ih =>
    rw [cntP_cons, begP_cons]
    have : (if contB p x = true then 1 else 0) ≤ (if (St.pvalid (toP p) && decide (p.lo ≤ x)) = true then 1 else 0) := by
      rw [contB_eq]
      cases hv : St.pvalid (toP p)
      · simp
      · simp only [Bool.true_and, Bool.and_eq_true, decide_eq_true_eq]
        split <;> split <;> omega
    omega
theorem beg_mono {x y : Int} (h : x ≤ y) (ps : List Per) : begP ps x ≤ begP ps y := by
  induction ps with
  | nil => simp [begP]
  | cons p ps ih =>
    rw [begP_cons, begP_cons]
    have : (if (St.pvalid (toP p) && decide (p.lo ≤ x)) = true then 1 else 0) ≤ (if (St.pvalid (toP p) && decide (p.lo ≤ y)) = true then 1 else 0) := by
      cases hv : St.pvalid (toP p)
      · simp
      · simp only [Bool.true_and, decide_eq_true_eq]
        split <;> split <;> omega
    omega
theorem levK_inv2 {l : List (Int × Int)} (ps : List Per) (ha : St.Asc l) (hF : ∀ s ∈ l, 0 ≤ s.1 ∧ s.1 < 1099511627776) (hy : ∀ s ∈ l, s.2 = (cntP ps s.1 : Int)) : ∀ k, k ≤ l.length →
    (∀ q ∈ (St.levK l k).2, St.pvalid q = true) ∧ (∀ f ∈ (St.levK l k).1, 0 ≤ f ∧ f < 1099511627776 ∧ ∃ (j : Nat) (y : Int), j < k ∧ l[j]? = some (f, y)) ∧
    ((k = 0 ∧ (St.levK l k).1 = [] ∧ (St.levK l k).2 = []) ∨ ∃ x y, l[k - 1]? = some (x, y) ∧ 0 < k ∧ (St.levK l k).1.length = cntP ps x ∧ (St.levK l k).2.length + (St.levK l k).1.length ≤ begP ps x)
  | 0, _ => ⟨fun q hq => (by cases hq), fun f hf => (by cases hf), .inl ⟨rfl, rfl, rfl⟩⟩
  | k + 1, hk => by
    obtain ⟨h1, h2, h3⟩ := levK_inv2 ps ha hF hy k (by omega)
    have hx : l[k]? = some (l[k]'(by omega)) := List.getElem?_eq_getElem (by omega)
    generalize l[k]'(by omega) = p at hx
    obtain ⟨x, y⟩ := p
    have hm := List.mem_of_getElem? hx
    have hxF := hF _ hm
    have hxy : y = (cntP ps x : Int) := hy _ hm
    rw [St.levK_next hx]
    have hc : St.clipL y = cntP ps x := by
      unfold St.clipL
      rw [hxy]
      split <;> omega
    unfold St.levStep
    dsimp only
    rw [hc]
    refine ⟨fun q hq => ?_, fun f hf => ?_, .inr ⟨x, y, by simpa using hx, by omega, St.setE_len _ _ _, ?_⟩⟩
    · rcases List.mem_append.1 hq with hq | hq
      · exact h1 q hq
      · obtain ⟨f, hf, rfl⟩ := List.mem_map.1 hq
        obtain ⟨f1, f2, j, z, hj, hz⟩ := h2 f (List.mem_of_mem_drop hf)
        have := ha j k _ _ hj hz hx
        show St.pvalid (f, x) = true
        unfold St.pvalid
        simp only [Bool.and_eq_true, decide_eq_true_eq]
        dsimp only at this hxF
        omega
    · unfold St.setE at hf
      rcases List.mem_append.1 hf with hf | hf
      · obtain ⟨f1, f2, j, z, hj, hz⟩ := h2 f (List.mem_of_mem_take hf)
        exact ⟨f1, f2, j, z, by omega, hz⟩
      · obtain ⟨_, rfl⟩ := List.mem_replicate.1 hf
        exact ⟨hxF.1, hxF.2, k, y, by omega, hx⟩
    · rw [St.setE_len, List.length_append, List.length_map, List.length_drop]
      rcases h3 with ⟨_, e1, e2⟩ | ⟨x0, y0, hx0, hk0, e1, e2⟩
      · rw [e1, e2]
        have := cnt_beg ps x
        simp only [List.length_nil]
        omega
      · have hlt := ha (k - 1) k _ _ (by omega) hx0 hx
        dsimp only at hlt
        have b1 := beg_step hlt ps
        have b2 := beg_mono (Int.le_of_lt hlt) ps
        omega
theorem levD_facts (ps : List Per) (hn : ps.length ≤ 300) : (St.levD (stepsOf ps)).length ≤ ps.length ∧ ∀ q ∈ St.levD (stepsOf ps), St.pvalid q = true := by
  obtain ⟨ha, hF, hne, _⟩ := St.svalid_asc (steps_valid ps)
  have hnn := St.svalid_nonneg (steps_valid ps)
  have hy : ∀ s ∈ stepsOf ps, s.2 = (cntP ps s.1 : Int) := by
    intro s hs
    have h := ((St.ofL_spec ((ones ps).map toC)).2 s hs).2
    rw [h, St.rsum_ones s.1 (ones_two ps) (by simp [ones]; omega), ones_P, St.isum_onesF, cnt_nat]
  obtain ⟨h1, h2, h3⟩ := levK_inv2 ps ha (fun s hs => ⟨hnn s hs, hF s hs⟩) hy (stepsOf ps).length (Nat.le_refl _)
  unfold St.levD
  refine ⟨?_, fun q hq => ?_⟩
  · rw [List.length_append, List.length_map]
    rcases h3 with ⟨_, e1, e2⟩ | ⟨x, y, _, _, _, e2⟩
    · rw [e1, e2]; exact Nat.zero_le _
    · exact Nat.le_trans e2 (List.length_filter_le _ _)
  · rcases List.mem_append.1 hq with hq | hq
    · exact h1 q hq
    · obtain ⟨f, hf, rfl⟩ := List.mem_map.1 hq
      obtain ⟨f1, f2, _⟩ := h2 f hf
      show St.pvalid (f, 1099511627776) = true
      unfold St.pvalid
      simp only [Bool.and_eq_true, decide_eq_true_eq]
      omega
theorem lev_perm (ps : List Per) (hn : ps.length ≤ 300) : ((levOf ps).map toP).Perm (St.levD (stepsOf ps)) := by
  obtain ⟨ha, hF, _, _⟩ := St.svalid_asc (steps_valid ps)
  have hM : ∀ s ∈ stepsOf ps, s.2 ≤ 600 := by
    intro s hs
    have h := ((St.ofL_spec ((ones ps).map toC)).2 s hs).2
    rw [h, St.rsum_ones s.1 (ones_two ps) (by simp [ones]; omega), ones_P, St.isum_onesF, cnt_nat]
    have := cntP_le ps s.1
    omega
  rw [lev_P]
  have h0 := (St.place_all (St.levAll (stepsOf ps)) [] .nil).2
  rw [List.nil_append] at h0
  exact h0.trans (St.levD_perm ha hF hM).symm
theorem lev_len (ps : List Per) (hn : ps.length ≤ 300) : (levOf ps).length ≤ ps.length := by
  have := (lev_perm ps hn).length_eq
  rw [List.length_map] at this
  rw [this]; exact (levD_facts ps hn).1
theorem lev_valid (ps : List Per) (hn : ps.length ≤ 300) : ∀ p ∈ levOf ps, St.pvalid (toP p) = true := fun p hp =>
  (levD_facts ps hn).2 _ ((lev_perm ps hn).subset (List.mem_map_of_mem hp))
end Go.Proofs.YtfccopdbgfdcdaaGreatDoor
namespace Go.Proofs.YtfccopdbgfdcdaaGreatDoor
open Go.RowKit Go.MapKept
set_option maxRecDepth 100000
set_option linter.unusedVariables false
set_option linter.unusedSimpArgs false
theorem srows_ne {r : List Val} {R : List (List Val)} (h : SRows (r :: R)) : r ∉ R := by
  intro hr
  have := List.rel_of_pairwise_cons h hr
  rw [totC_rcmp.refl] at this
  omega
theorem filter_two {α : Type} (p : α → Bool) : ∀ l : List α, (l.filter p).length + (l.filter fun x => !p x).length = l.length
  | [] => rfl
  | x :: l => by
    have := filter_two p l
    rw [List.filter_cons, List.filter_cons]
    cases h : p x <;> simp <;> omega
theorem perOf_le (l : List Fct) (r : List Val) : (perOf l r).length ≤ (l.filter fun f => decide (f.row = r)).length := by
  unfold perOf
  rw [List.length_map]
  induction l with
  | nil => exact Nat.le_refl _
  | cons f l ih =>
    rw [List.filter_cons, List.filter_cons]
    cases pvalB f.valid <;> cases decide (f.row = r) <;> simp <;> omega
theorem perOf_rest {r x : List Val} (h : x ≠ r) (l : List Fct) : perOf l x = perOf (l.filter fun f => !decide (f.row = r)) x := by
  unfold perOf
  rw [List.filter_filter]
  congr 1
  apply List.filter_congr
  intro f _
  by_cases hx : f.row = x
  · have : f.row ≠ r := fun e => h (hx.symm.trans e)
    simp [hx, h]
  · simp [hx]
theorem perOf_sum : ∀ (R : List (List Val)) (l : List Fct), SRows R → (R.flatMap fun r => perOf l r).length ≤ l.length
  | [], l, _ => Nat.zero_le _
  | r :: R, l, h => by
    rw [List.flatMap_cons, List.length_append]
    have e : (R.flatMap fun x => perOf l x) = R.flatMap fun x => perOf (l.filter fun f => !decide (f.row = r)) x := by
      rw [List.flatMap_def, List.flatMap_def]
      congr 1
      refine List.map_congr_left fun x hx => perOf_rest ?_ l
      rintro rfl
      exact srows_ne h hx
    rw [e]
    have h1 := perOf_sum R (l.filter fun f => !decide (f.row = r)) (List.Pairwise.of_cons h)
    have h2 := perOf_le l r
    have h3 := filter_two (fun f : Fct => decide (f.row = r)) l
    omega
theorem flatMap_len {α β γ : Type} (f : α → List β) (g : α → List γ) : ∀ l : List α, (∀ x ∈ l, (f x).length ≤ (g x).length) → (l.flatMap f).length ≤ (l.flatMap g).length
  | [], _ => Nat.le_refl _
  | x :: l, h => by
    rw [List.flatMap_cons, List.flatMap_cons, List.length_append, List.length_append]
    have := h x (List.mem_cons_self ..)
    have := flatMap_len f g l fun y hy => h y (List.mem_cons_of_mem _ hy)
    omega
theorem perOf_le2 (l : List Fct) (r : List Val) : (perOf l r).length ≤ l.length := by
  unfold perOf; rw [List.length_map]; exact List.length_filter_le _ _
section
variable {l : List Fct} {R : List (List Val)} (h : RowsOf l R) (hn : l.length ≤ 300)
include h hn
theorem bag_len : (bagOf l R).length ≤ l.length := by
  refine Nat.le_trans ?_ (perOf_sum R l h.1)
  refine flatMap_len _ _ _ fun r _ => ?_
  rw [List.length_map]
  exact lev_len _ (Nat.le_trans (perOf_le2 l r) hn)
end
end Go.Proofs.YtfccopdbgfdcdaaGreatDoor
namespace Go.Proofs.YtfccopdbgfdcdaaGreatDoor
open Go.RowKit
set_option linter.unusedVariables false
set_option linter.unusedSimpArgs false
end Go.Proofs.YtfccopdbgfdcdaaGreatDoor
namespace Go.Proofs.YtfccopdbgfdcdaaGreatDoor
open Go.RowKit
set_option linter.unusedVariables false
set_option linter.unusedSimpArgs false
def ApS (p q : Int × Int) : Prop := p.2 < q.1 ∨ q.2 < p.1 ∨ (p.1 ≤ q.1 ∧ q.2 ≤ p.2) ∨ (q.1 ≤ p.1 ∧ p.2 ≤ q.2)
structure Stk (E : List Int) (out : List (Int × Int)) (x : Int) : Prop where
  asc : E.Pairwise (· ≤ ·)
  out2 : ∀ p ∈ out, ∀ q ∈ out, ApS p q
  fin : ∀ p ∈ out, p.2 ≤ x ∧ p.1 < p.2
  opn : ∀ f ∈ E, f ≤ x ∧ ∀ q ∈ out, f ≤ q.1 ∨ q.2 < f
theorem Stk.pop {E : List Int} {out : List (Int × Int)} {x y : Int} (h : Stk E out x) (hxy : x < y) (c : Nat) :
    (∀ p ∈ out ++ (E.drop c).map (fun f => (f, y)), ∀ q ∈ out ++ (E.drop c).map (fun f => (f, y)), ApS p q) ∧ (∀ p ∈ out ++ (E.drop c).map (fun f => (f, y)), p.2 ≤ y ∧ p.1 < p.2) := by
  have key : ∀ p ∈ out, ∀ f ∈ E.drop c, ApS p (f, y) ∧ ApS (f, y) p := by
    intro p hp f hf
    have h1 := (h.opn f (List.mem_of_mem_drop hf)).2 p hp
    have h2 := h.fin p hp
    unfold ApS
    dsimp only
    omega
  have two : ∀ f ∈ E.drop c, ∀ g ∈ E.drop c, ApS (f, y) (g, y) := by
    intro f _ g _
    unfold ApS
    dsimp only
    omega
  refine ⟨fun p hp q hq => ?_, fun p hp => ?_⟩
  · rcases List.mem_append.1 hp with hp | hp <;> rcases List.mem_append.1 hq with hq | hq
    · exact h.out2 p hp q hq
    · obtain ⟨f, hf, rfl⟩ := List.mem_map.1 hq
      exact (key p hp f hf).1
    · obtain ⟨f, hf, rfl⟩ := List.mem_map.1 hp
      exact (key q hq f hf).2
    · obtain ⟨f, hf, rfl⟩ := List.mem_map.1 hp
      obtain ⟨g, hg, rfl⟩ := List.mem_map.1 hq
      exact two f hf g hg
  · rcases List.mem_append.1 hp with hp | hp
    · have := h.fin p hp; omega
    · obtain ⟨f, hf, rfl⟩ := List.mem_map.1 hp
      have := (h.opn f (List.mem_of_mem_drop hf)).1
      dsimp only
      omega
theorem Stk.next {E : List Int} {out : List (Int × Int)} {x y : Int} (h : Stk E out x) (hxy : x < y) (c : Nat) : Stk (St.setE E y c) (out ++ (E.drop c).map fun f => (f, y)) y := by
  obtain ⟨h1, h2⟩ := h.pop hxy c
  unfold St.setE
  refine ⟨?_, h1, h2, fun f hf => ?_⟩
  · rw [List.pairwise_append]
    refine ⟨h.asc.sublist (List.take_sublist _ _), List.pairwise_replicate.2 (.inr (Int.le_refl _)), fun a ha b hb => ?_⟩
    obtain ⟨_, rfl⟩ := List.mem_replicate.1 hb
    have := (h.opn a (List.mem_of_mem_take ha)).1
    omega
  · rcases List.mem_append.1 hf with hf | hf
    · have h3 := h.opn f (List.mem_of_mem_take hf)
      refine ⟨by omega, fun q hq => ?_⟩
      rcases List.mem_append.1 hq with hq | hq
      · exact h3.2 q hq
      · obtain ⟨g, hg, rfl⟩ := List.mem_map.1 hq
        have hs : (E.take c ++ E.drop c).Pairwise (· ≤ ·) := by rw [List.take_append_drop]; exact h.asc
        exact .inl ((List.pairwise_append.1 hs).2.2 f hf g hg)
    · obtain ⟨hc, rfl⟩ := List.mem_replicate.1 hf
      refine ⟨Int.le_refl _, fun q hq => ?_⟩
      rcases List.mem_append.1 hq with hq | hq
      · have := (h.fin q hq).1; exact .inr (by omega)
      · rw [List.drop_eq_nil_of_le (by omega)] at hq
        cases hq
end Go.Proofs.YtfccopdbgfdcdaaGreatDoor
namespace Go.Proofs.YtfccopdbgfdcdaaGreatDoor
open Go.RowKit
set_option maxRecDepth 100000
set_option linter.unusedVariables false
set_option linter.unusedSimpArgs false
end Go.Proofs.YtfccopdbgfdcdaaGreatDoor
namespace Go.Proofs.YtfccopdbgfdcdaaGreatDoor
open Go.RowKit
set_option maxRecDepth 100000
set_option linter.unusedVariables false
set_option linter.unusedSimpArgs false
end Go.Proofs.YtfccopdbgfdcdaaGreatDoor
namespace Go.Proofs.YtfccopdbgfdcdaaGreatDoor
open Go.RowKit Go.MapKept
set_option maxRecDepth 100000
set_option linter.unusedVariables false
set_option linter.unusedSimpArgs false
end Go.Proofs.YtfccopdbgfdcdaaGreatDoor
