/- Parts of the proof, joined. No condition. -/
import Derived.Test.YtfccopdbgfdcdaaGreatDoorKBM
import Derived.Test.YtfccopdbgfdcdaaGreatDoorKBH
import Derived.Test.YtfccopdbgfdcdaaGreatDoorKAM
import Derived.Test.YtfccopdbgfdcdaaGreatDoorKBI
set_option linter.unusedSimpArgs false
set_option linter.unusedVariables false
namespace Go.Proofs.YtfccopdbgfdcdaaGreatDoor
open Go.RowKit Go.MapKept
set_option maxRecDepth 100000
set_option maxHeartbeats 8000000
set_option linter.unusedVariables false
set_option linter.unusedSimpArgs false
def gOfL (l : List Cnt) : Option (List Stp) := bif decide (l.length ≤ 100000) then some (ofV l) else none
theorem gOfL_ok {l : List Cnt} {r : List Stp} (H : gOfL l = some r) : Pure Tryz.prog 142 [.one (.lst (l.map cCnt))] (.val (.one (.lst (r.map cStp)))) := by
  unfold gOfL at H
  obtain ⟨g, H⟩ := grd_some H
  obtain rfl := Option.some.inj H
  exact of_pure l (of_decide_eq_true g)
def gOfR (l : List Cnt) : Option (List Stp) := bif decide (l.length ≤ 100000) then some (ofV l) else none
theorem gOfR_ok {l : List Cnt} {r : List Stp} (H : gOfR l = some r) : Pure Tryz.prog 146 [.one (.lst (l.map cCnt))] (.val (.one (.lst (r.map cStp)))) := by
  unfold gOfR at H
  obtain ⟨g, H⟩ := grd_some H
  obtain rfl := Option.some.inj H
  exact ofR_pure l (of_decide_eq_true g)
open Classical in
noncomputable def gLevL (l : List Stp) : Option (List Per) := if LevOK l then some (levV l) else none
theorem gLevL_ok {l : List Stp} {r : List Per} (H : gLevL l = some r) : Pure Tryz.prog 90 [.one (.lst (l.map cStp))] (.val (.one (.lst (r.map cPer)))) := by
  unfold gLevL at H
  split at H
  · rename_i h; obtain rfl := Option.some.inj H; exact lev_pure l h
  · cases H
open Classical in
noncomputable def gLevR (l : List Stp) : Option (List Per) := if LevOK l then some (levV l) else none
theorem gLevR_ok {l : List Stp} {r : List Per} (H : gLevR l = some r) : Pure Tryz.prog 64 [.one (.lst (l.map cStp))] (.val (.one (.lst (r.map cPer)))) := by
  unfold gLevR at H
  split at H
  · rename_i h; obtain rfl := Option.some.inj H; exact levR_pure l h
  · cases H
def FctsOK (l : List Fct) : Prop := l.length ≤ 19 ∧ ∀ f ∈ l, f.row.length ≤ 1000 ∧ ∀ v ∈ f.row, VOK v
open Classical in
noncomputable def gRowsCo (l : List Fct) : Option (List SGroupcoalesce) := if FctsOK l then some (rowsP l) else none
theorem gRowsCo_ok {l : List Fct} {r : List SGroupcoalesce} (H : gRowsCo l = some r) : Pure Tryz.prog 136 [.one (.lst (l.map cFct))] (.val (.one (.lst (r.map cSGroupcoalesce)))) := by
  unfold gRowsCo at H
  split at H
  · rename_i h; obtain rfl := Option.some.inj H; exact rows_pure l h.1 h.2
  · cases H
noncomputable section
def gCounted_B1 (a_l : (List Per)) : ((List Cnt) × Int) → Option (Step ((List Cnt) × Int) ((List Stp))) := fun s => match s with
  | (c_1, v_2) => bif (decide (v_2 < ((a_l.length : Nat) : Int))) then
    (getI a_l v_2).bind fun x_4 => bif (decide (c_1.length + 1 ≤ 5864062014805)) then (some (.next ((c_1 ++ [(⟨x_4, (1 : Int)⟩ : Cnt)]), (IntKind.i64.wrap (v_2 + (1 : Int)))))) else none
  else
    some (.exit (c_1, v_2))
def gCounted_K1 : Sum ((List Cnt) × Int) ((List Stp)) → Option (((List Stp)))
  | .inl (c_1, v_2) => (gOfL c_1).bind fun r_5 => some r_5
  | .inr q => some q
def gCounted (a_l : (List Per)) : Option ((List Stp)) := (loopM (gCounted_B1 a_l) fuel ([], (0 : Int))).bind (gCounted_K1)
theorem gCounted_ok {a_l : (List Per)} {r : (List Stp)} (H : gCounted a_l = some r) : Pure Tryz.prog 91 [.one (.lst (a_l.map cPer))] (.val (.one (.lst (r.map cStp)))) := by
  unfold gCounted at H
  refine pure_of_aw tab_ok Tryz.func91 rfl rfl Tryz.ntmps91 (by simp) ?_
  simp only [argT, PV.av, List.map_cons, List.map_nil]
  repeat' (first | refine p_ rfl rfl rfl rfl rfl ?_ | refine st_nil ?_ | refine x_ rfl rfl rfl rfl rfl rfl rfl rfl ?_ | refine l_ rfl rfl rfl rfl ?_ | refine s_ rfl rfl rfl ?_ | refine t_ rfl rfl rfl rfl ?_ | refine k_ rfl rfl rfl ?_ | refine k0_ rfl rfl ?_ | refine c_ rfl rfl rfl rfl ?_ | refine pick_t rfl rfl rfl rfl rfl rfl rfl ?_ | refine pick_f rfl rfl rfl rfl rfl rfl rfl ?_ | refine aw_seq ?_ | refine aw_region tab_ok _ rfl ?_ | refine aw_drawn2 tabS_ok _ rfl mixed (by decide +kernel) ?_ | refine aw_condT rfl ?_ | refine aw_condF rfl ?_ | refine aw_block ?_ | refine aw_exit ?_ | refine aw_ret ?_ | refine aw_skip ?_ | rw [List.length_map] | rw [mn_norm] | rw [mx_norm])
  refine aw_tok 3 3 rfl ?_
  refine aw_loopM (fun s : (List Cnt) × Int => match s with | (c_1, v_2) => [(3, .one (.own (c_1.map cCnt) 0)), (6, .one (.c (.lst (a_l.map cPer)))), (7, .one (.c (.int .i64 ((a_l.length : Nat) : Int)))), (8, .one (.c (.int .i64 v_2)))]) (fun s => match s with | (c_1, v_2) => [.spare c_1.length 3]) H (fun _ => Nat.zero_le _)
    (fits_mk ⟨rfl, rfl, rfl, rfl, trivial⟩ [] rfl ⟨by show 0 < 1; omega, trivial, trivial, trivial, trivial⟩ ⟨trivial, trivial⟩) ?_
  rintro ⟨c_1, v_2⟩ st1 hb1 hk1
  unfold gCounted_B1 at hb1
  dsimp only at hb1 ⊢
  rcases Bool.eq_false_or_eq_true (decide (v_2 < ((a_l.length : Nat) : Int))) with q_3 | q_3
  · rw [q_3, cond_true] at hb1
    obtain ⟨x_4, i1, hb1⟩ := bind_some hb1
    obtain ⟨i1z, i1⟩ := getI_some i1
    have i1x := idxI (f := cPer) i1
    obtain ⟨g2, hb1⟩ := grd_some hb1
    replace g2 := of_decide_eq_true g2
    obtain rfl := Option.some.inj hb1
    repeat' (first | refine p_ rfl rfl rfl rfl rfl ?_ | refine st_nil ?_ | refine x_ rfl rfl rfl rfl rfl rfl rfl rfl ?_ | refine l_ rfl rfl rfl rfl ?_ | refine s_ rfl rfl rfl ?_ | refine t_ rfl rfl rfl rfl ?_ | refine k_ rfl rfl rfl ?_ | refine k0_ rfl rfl ?_ | refine c_ rfl rfl rfl rfl ?_ | refine pick_t rfl rfl rfl rfl rfl rfl rfl ?_ | refine pick_f rfl rfl rfl rfl rfl rfl rfl ?_ | refine aw_seq ?_ | refine aw_region tab_ok _ rfl ?_ | refine aw_drawn2 tabS_ok _ rfl mixed (by decide +kernel) ?_ | refine aw_condT rfl ?_ | refine aw_condF rfl ?_ | refine aw_block ?_ | refine aw_exit ?_ | refine aw_ret ?_ | refine aw_skip ?_ | rw [List.length_map] | rw [mn_norm] | rw [mx_norm])
    exact ⟨_, rfl, fits_mk ⟨(by simp only [List.map_append, List.map_cons, List.map_nil, List.nil_append] <;> rfl), rfl, rfl, rfl, trivial⟩ [_] (by simp only [List.length_append, List.length_cons, List.length_nil, Nat.zero_add, List.map_append, List.map_cons, List.map_nil] <;> rfl) ⟨by show 0 < 1; omega, trivial, trivial, trivial, trivial⟩ ⟨trivial, trivial⟩⟩
  · rw [q_3, cond_false] at hb1
    obtain rfl := Option.some.inj hb1
    have hx1 : gCounted_K1 (.inl (c_1, v_2)) = some _ := hk1
    unfold gCounted_K1 at hx1
    dsimp only at hx1
    obtain ⟨r_5, c3, hx1⟩ := bind_some hx1
    replace c3 := gOfL_ok c3
    try simp only [List.map_append, List.map_cons, List.map_nil, List.nil_append, tE_eq] at c3
    obtain rfl := Option.some.inj hx1
    exact go_
def gBag1 (a_p : (List Per)) : Option ((List Per)) := bif (decide (((a_p.length : Nat) : Int) = (1 : Int))) then
  some a_p
 else
  (gCounted a_p).bind fun r_2 => (gLevL r_2).bind fun r_3 => some r_3
theorem gBag1_ok {a_p : (List Per)} {r : (List Per)} (H : gBag1 a_p = some r) : Pure Tryz.prog 89 [.one (.lst (a_p.map cPer))] (.val (.one (.lst (r.map cPer)))) := by
  unfold gBag1 at H
  refine pure_of_aw tab_ok Tryz.func89 rfl rfl Tryz.ntmps89 (by simp) ?_
  simp only [argT, PV.av, List.map_cons, List.map_nil]
  rcases Bool.eq_false_or_eq_true (decide (((a_p.length : Nat) : Int) = (1 : Int))) with q_1 | q_1
  · rw [q_1, cond_true] at H
    obtain rfl := Option.some.inj H
    exact go_
  · rw [q_1, cond_false] at H
    obtain ⟨r_2, c1, H⟩ := bind_some H
    replace c1 := gCounted_ok c1
    try simp only [List.map_append, List.map_cons, List.map_nil, List.nil_append, tE_eq] at c1
    obtain ⟨r_3, c2, H⟩ := bind_some H
    replace c2 := gLevL_ok c2
    try simp only [List.map_append, List.map_cons, List.map_nil, List.nil_append, tE_eq] at c2
    obtain rfl := Option.some.inj H
    exact go_
def gBuild_B4 (x_5 : SGroupcoalesce) (r_6 : (List Per)) : ((List Fct) × Int) → Option (Step ((List Fct) × Int) ((List Fct))) := fun s => match s with
  | (out_7, v_8) => bif (decide (v_8 < ((r_6.length : Nat) : Int))) then
    (getI r_6 v_8).bind fun x_10 => bif (decide (x_5.row.length ≤ 4398046511104)) then (bif (decide (out_7.length + 1 ≤ 3518437208883)) then (some (.next ((out_7 ++ [(⟨x_5.row, x_10⟩ : Fct)]), (IntKind.i64.wrap (v_8 + (1 : Int)))))) else none) else none
  else
    some (.exit (out_7, v_8))
def gBuild_K4 (v_3 : Int) : Sum ((List Fct) × Int) ((List Fct)) → Option (Step ((List Fct) × Int) ((List Fct)))
  | .inl (out_7, v_8) => some (.next (out_7, (IntKind.i64.wrap (v_3 + (1 : Int)))))
  | .inr q => some (.ret q)
def gBuild_B3 (a_f : (List Per) → Option ((List Per))) (r_1 : (List SGroupcoalesce)) : ((List Fct) × Int) → Option (Step ((List Fct) × Int) ((List Fct))) := fun s => match s with
  | (out_2, v_3) => bif (decide (v_3 < ((r_1.length : Nat) : Int))) then
    (getI r_1 v_3).bind fun x_5 => (a_f x_5.periods).bind fun r_6 => (loopM (gBuild_B4 x_5 r_6) fuel (out_2, (0 : Int))).bind (gBuild_K4 v_3)
  else
    some (.exit (out_2, v_3))
def gBuild_K3 : Sum ((List Fct) × Int) ((List Fct)) → Option (((List Fct)))
  | .inl (out_2, v_3) => some out_2
  | .inr q => some q
def gBuild (a_l : (List Fct)) (a_f : (List Per) → Option ((List Per))) : Option ((List Fct)) := (gRowsCo a_l).bind fun r_1 => (loopM (gBuild_B3 a_f r_1) fuel ([], (0 : Int))).bind (gBuild_K3)
theorem gBuild_ok {a_l : (List Fct)} {a_f : (List Per) → Option ((List Per))} {r : (List Fct)} {F_a_f : FuncId} {caps_a_f : List AC} (hf_a_f : ∀ (y0 : (List Per)) (r : (List Per)), a_f y0 = some r → Pure Tryz.prog F_a_f ([.one (.lst (y0.map cPer))] ++ caps_a_f.map .one) (.val (.one (.lst (r.map cPer))))) (H : gBuild a_l a_f = some r) : Pure Tryz.prog 88 [.one (.lst (a_l.map cFct)), .one (.fn F_a_f caps_a_f)] (.val (.one (.lst (r.map cFct)))) := by
  unfold gBuild at H
  refine pure_of_aw tab_ok Tryz.func88 rfl rfl Tryz.ntmps88 (by simp) ?_
  simp only [argT, PV.av, List.map_cons, List.map_nil]
  obtain ⟨r_1, c1, H⟩ := bind_some H
  replace c1 := gRowsCo_ok c1
  try simp only [List.map_append, List.map_cons, List.map_nil, List.nil_append, tE_eq] at c1
  repeat' (first | refine p_ rfl rfl rfl rfl rfl ?_ | refine st_nil ?_ | refine x_ rfl rfl rfl rfl rfl rfl rfl rfl ?_ | refine l_ rfl rfl rfl rfl ?_ | refine s_ rfl rfl rfl ?_ | refine t_ rfl rfl rfl rfl ?_ | refine k_ rfl rfl rfl ?_ | refine k0_ rfl rfl ?_ | refine c_ rfl rfl rfl rfl ?_ | refine pick_t rfl rfl rfl rfl rfl rfl rfl ?_ | refine pick_f rfl rfl rfl rfl rfl rfl rfl ?_ | refine aw_seq ?_ | refine aw_region tab_ok _ rfl ?_ | refine aw_drawn2 tabS_ok _ rfl mixed (by decide +kernel) ?_ | refine aw_condT rfl ?_ | refine aw_condF rfl ?_ | refine aw_block ?_ | refine aw_exit ?_ | refine aw_ret ?_ | refine aw_skip ?_ | rw [List.length_map] | rw [mn_norm] | rw [mx_norm])
  refine aw_tok 5 3 rfl ?_
  refine aw_loopM (fun s : (List Fct) × Int => match s with | (out_2, v_3) => [(1, .one (.c (.fn F_a_f caps_a_f))), (5, .one (.own (out_2.map cFct) 0)), (11, .one (.c (.lst (r_1.map cSGroupcoalesce)))), (12, .one (.c (.int .i64 ((r_1.length : Nat) : Int)))), (13, .one (.c (.int .i64 v_3)))]) (fun s => match s with | (out_2, v_3) => [.spare out_2.length 3]) H (fun _ => Nat.zero_le _)
    (fits_mk ⟨rfl, rfl, rfl, rfl, rfl, trivial⟩ [] rfl ⟨trivial, by show 0 < 1; omega, trivial, trivial, trivial, trivial⟩ ⟨trivial, trivial⟩) ?_
  rintro ⟨out_2, v_3⟩ st3 hb3 hk3
  unfold gBuild_B3 at hb3
  dsimp only at hb3 ⊢
  rcases Bool.eq_false_or_eq_true (decide (v_3 < ((r_1.length : Nat) : Int))) with q_4 | q_4
  · rw [q_4, cond_true] at hb3
    obtain ⟨x_5, i2, hb3⟩ := bind_some hb3
    obtain ⟨i2z, i2⟩ := getI_some i2
    have i2x := idxI (f := cSGroupcoalesce) i2
    obtain ⟨r_6, c3, hb3⟩ := bind_some hb3
    replace c3 := hf_a_f _ _ c3
    try simp only [List.map_append, List.map_cons, List.map_nil, List.nil_append, tE_eq] at c3
    repeat' (first | refine p_ rfl rfl rfl rfl rfl ?_ | refine st_nil ?_ | refine x_ rfl rfl rfl rfl rfl rfl rfl rfl ?_ | refine l_ rfl rfl rfl rfl ?_ | refine s_ rfl rfl rfl ?_ | refine t_ rfl rfl rfl rfl ?_ | refine k_ rfl rfl rfl ?_ | refine k0_ rfl rfl ?_ | refine c_ rfl rfl rfl rfl ?_ | refine pick_t rfl rfl rfl rfl rfl rfl rfl ?_ | refine pick_f rfl rfl rfl rfl rfl rfl rfl ?_ | refine aw_seq ?_ | refine aw_region tab_ok _ rfl ?_ | refine aw_drawn2 tabS_ok _ rfl mixed (by decide +kernel) ?_ | refine aw_condT rfl ?_ | refine aw_condF rfl ?_ | refine aw_block ?_ | refine aw_exit ?_ | refine aw_ret ?_ | refine aw_skip ?_ | rw [List.length_map] | rw [mn_norm] | rw [mx_norm])
    refine aw_loopM (fun s : (List Fct) × Int => match s with | (out_7, v_8) => [(1, .one (.c (.fn F_a_f caps_a_f))), (5, .one (.own (out_7.map cFct) 0)), (7, .one (.ptr 1 0)), (11, .one (.c (.lst (r_1.map cSGroupcoalesce)))), (12, .one (.c (.int .i64 ((r_1.length : Nat) : Int)))), (13, .one (.c (.int .i64 v_3))), (20, .one (.c (.lst (r_6.map cPer)))), (21, .one (.c (.int .i64 ((r_6.length : Nat) : Int)))), (22, .one (.c (.int .i64 v_8)))]) (fun s => match s with | (out_7, v_8) => [.spare out_7.length 3, .box [.c (.lst (x_5.row.map cV)), .c (.lst (x_5.periods.map cPer))]]) hb3 (fun _ => Nat.zero_le _)
      (fits_mk ⟨rfl, rfl, rfl, rfl, rfl, rfl, rfl, rfl, rfl, trivial⟩ [] rfl ⟨trivial, by show 0 < 2; omega, by show 1 < 2; omega, trivial, trivial, trivial, trivial, trivial, trivial, trivial⟩ ⟨trivial, ob_below (by rfl), trivial⟩) ?_
    rintro ⟨out_7, v_8⟩ st4 hb4 hk4
    unfold gBuild_B4 at hb4
    dsimp only at hb4 ⊢
    rcases Bool.eq_false_or_eq_true (decide (v_8 < ((r_6.length : Nat) : Int))) with q_9 | q_9
    · rw [q_9, cond_true] at hb4
      obtain ⟨x_10, i4, hb4⟩ := bind_some hb4
      obtain ⟨i4z, i4⟩ := getI_some i4
      have i4x := idxI (f := cPer) i4
      obtain ⟨g5, hb4⟩ := grd_some hb4
      replace g5 := of_decide_eq_true g5
      obtain ⟨g6, hb4⟩ := grd_some hb4
      replace g6 := of_decide_eq_true g6
      obtain rfl := Option.some.inj hb4
      repeat' (first | refine p_ rfl rfl rfl rfl rfl ?_ | refine st_nil ?_ | refine x_ rfl rfl rfl rfl rfl rfl rfl rfl ?_ | refine l_ rfl rfl rfl rfl ?_ | refine s_ rfl rfl rfl ?_ | refine t_ rfl rfl rfl rfl ?_ | refine k_ rfl rfl rfl ?_ | refine k0_ rfl rfl ?_ | refine c_ rfl rfl rfl rfl ?_ | refine pick_t rfl rfl rfl rfl rfl rfl rfl ?_ | refine pick_f rfl rfl rfl rfl rfl rfl rfl ?_ | refine aw_seq ?_ | refine aw_region tab_ok _ rfl ?_ | refine aw_drawn2 tabS_ok _ rfl mixed (by decide +kernel) ?_ | refine aw_condT rfl ?_ | refine aw_condF rfl ?_ | refine aw_block ?_ | refine aw_exit ?_ | refine aw_ret ?_ | refine aw_skip ?_ | rw [List.length_map] | rw [mn_norm] | rw [mx_norm])
      exact ⟨_, rfl, fits_mk ⟨rfl, (by simp only [List.map_append, List.map_cons, List.map_nil, List.nil_append] <;> rfl), rfl, rfl, rfl, rfl, rfl, rfl, rfl, trivial⟩ [_, _] (by simp only [List.length_append, List.length_cons, List.length_nil, Nat.zero_add, List.map_append, List.map_cons, List.map_nil] <;> rfl) ⟨trivial, by show 0 < 2; omega, by show 1 < 2; omega, trivial, trivial, trivial, trivial, trivial, trivial, trivial⟩ ⟨trivial, ob_below (by rfl), trivial⟩⟩
    · rw [q_9, cond_false] at hb4
      obtain rfl := Option.some.inj hb4
      have hx4 : gBuild_K4 v_3 (.inl (out_7, v_8)) = some _ := hk4
      unfold gBuild_K4 at hx4
      dsimp only at hx4
      obtain rfl := Option.some.inj hx4
      repeat' (first | refine p_ rfl rfl rfl rfl rfl ?_ | refine st_nil ?_ | refine x_ rfl rfl rfl rfl rfl rfl rfl rfl ?_ | refine l_ rfl rfl rfl rfl ?_ | refine s_ rfl rfl rfl ?_ | refine t_ rfl rfl rfl rfl ?_ | refine k_ rfl rfl rfl ?_ | refine k0_ rfl rfl ?_ | refine c_ rfl rfl rfl rfl ?_ | refine pick_t rfl rfl rfl rfl rfl rfl rfl ?_ | refine pick_f rfl rfl rfl rfl rfl rfl rfl ?_ | refine aw_seq ?_ | refine aw_region tab_ok _ rfl ?_ | refine aw_drawn2 tabS_ok _ rfl mixed (by decide +kernel) ?_ | refine aw_condT rfl ?_ | refine aw_condF rfl ?_ | refine aw_block ?_ | refine aw_exit ?_ | refine aw_ret ?_ | refine aw_skip ?_ | rw [List.length_map] | rw [mn_norm] | rw [mx_norm])
      exact ⟨_, rfl, fits_mk ⟨rfl, (by simp only [List.map_append, List.map_cons, List.map_nil, List.nil_append] <;> rfl), rfl, rfl, rfl, trivial⟩ [_] (by simp only [List.length_append, List.length_cons, List.length_nil, Nat.zero_add, List.map_append, List.map_cons, List.map_nil] <;> rfl) ⟨trivial, by show 0 < 1; omega, trivial, trivial, trivial, trivial⟩ ⟨trivial, trivial⟩⟩
  · rw [q_4, cond_false] at hb3
    obtain rfl := Option.some.inj hb3
    have hx3 : gBuild_K3 (.inl (out_2, v_3)) = some _ := hk3
    unfold gBuild_K3 at hx3
    dsimp only at hx3
    obtain rfl := Option.some.inj hx3
    exact go_
def gBag (a_l : (List Fct)) : Option ((List Fct)) := (gBuild a_l (fun x0 => gBag1 x0)).bind fun r_1 => some r_1
theorem gBag_ok {a_l : (List Fct)} {r : (List Fct)} (H : gBag a_l = some r) : Pure Tryz.prog 52 [.one (.lst (a_l.map cFct))] (.val (.one (.lst (r.map cFct)))) := by
  unfold gBag at H
  refine pure_of_aw tab_ok Tryz.func52 rfl rfl Tryz.ntmps52 (by simp) ?_
  simp only [argT, PV.av, List.map_cons, List.map_nil]
  obtain ⟨r_1, c1, H⟩ := bind_some H
  replace c1 := gBuild_ok (F_a_f := 89) (caps_a_f := []) (fun x0 r h => gBag1_ok h) c1
  try simp only [List.map_append, List.map_cons, List.map_nil, List.nil_append, tE_eq] at c1
  obtain rfl := Option.some.inj H
  exact go_
end
end Go.Proofs.YtfccopdbgfdcdaaGreatDoor
namespace Go.Proofs.YtfccopdbgfdcdaaGreatDoor
open Go.RowKit Go.MapKept
set_option maxRecDepth 100000
set_option maxHeartbeats 8000000
set_option linter.unusedVariables false
set_option linter.unusedSimpArgs false
def gOrderB (rec : List (List Val) → List Ord → Option (List (List Val))) (a_l : (List (List Val))) (a_o : (List Ord)) : Option ((List (List Val))) := bif (decide (((a_l.length : Nat) : Int) = (0 : Int))) then
  some []
 else
  bif (decide (((a_l.length : Nat) : Int) = (1 : Int))) then
    (getI a_l (0 : Int)).bind fun x_3 => bif (decide (x_3.length ≤ 4398046511104)) then (some [x_3]) else none
  else
    bif (decide ((2 : Int) ≠ 0)) then ((subI a_l (0 : Int) (IntKind.i64.wrap (((a_l.length : Nat) : Int).tdiv (2 : Int)))).bind fun s_4 => (rec s_4 a_o).bind fun r_5 => (subI a_l (IntKind.i64.wrap (((a_l.length : Nat) : Int).tdiv (2 : Int))) ((a_l.length : Nat) : Int)).bind fun s_6 => (rec s_6 a_o).bind fun r_7 => (gMerged r_5 r_7 a_o).bind fun r_8 => some r_8) else none
theorem gOrderB_ok {rec : List (List Val) → List Ord → Option (List (List Val))}  (hrec : ∀ {x : List (List Val)} {y : List Ord} {r : List (List Val)}, rec x y = some r → Pure Tryz.prog 96 [.one (.lst (x.map (fun x => [AC.lst (x.map cV)]))), .one (.lst (y.map cOrd))] (.val (.one (.lst (r.map (fun x => [AC.lst (x.map cV)])))))) {a_l : (List (List Val))} {a_o : (List Ord)} {r : (List (List Val))} (H : gOrderB rec a_l a_o = some r) : Pure Tryz.prog 96 [.one (.lst (a_l.map (fun x => [AC.lst (x.map cV)]))), .one (.lst (a_o.map cOrd))] (.val (.one (.lst (r.map (fun x => [AC.lst (x.map cV)]))))) := by
  unfold gOrderB at H
  refine pure_of_aw tab_ok Tryz.func96 rfl rfl Tryz.ntmps96 (by simp) ?_
  simp only [argT, PV.av, List.map_cons, List.map_nil]
  rcases Bool.eq_false_or_eq_true (decide (((a_l.length : Nat) : Int) = (0 : Int))) with q_1 | q_1
  · rw [q_1, cond_true] at H
    obtain rfl := Option.some.inj H
    exact go_
  · rw [q_1, cond_false] at H
    rcases Bool.eq_false_or_eq_true (decide (((a_l.length : Nat) : Int) = (1 : Int))) with q_2 | q_2
    · rw [q_2, cond_true] at H
      obtain ⟨x_3, i1, H⟩ := bind_some H
      obtain ⟨i1z, i1⟩ := getI_some i1
      have i1x := idxI (f := (fun x => [AC.lst (x.map cV)])) i1
      obtain ⟨g2, H⟩ := grd_some H
      replace g2 := of_decide_eq_true g2
      obtain rfl := Option.some.inj H
      repeat' (first | refine p_ rfl rfl rfl rfl rfl ?_ | refine st_nil ?_ | refine x_ rfl rfl rfl rfl rfl rfl rfl rfl ?_ | refine l_ rfl rfl rfl rfl ?_ | refine s_ rfl rfl rfl ?_ | refine t_ rfl rfl rfl rfl ?_ | refine k_ rfl rfl rfl ?_ | refine k0_ rfl rfl ?_ | refine c_ rfl rfl rfl rfl ?_ | refine pick_t rfl rfl rfl rfl rfl rfl rfl ?_ | refine pick_f rfl rfl rfl rfl rfl rfl rfl ?_ | refine aw_seq ?_ | refine aw_region tab_ok _ rfl ?_ | refine aw_drawn2 tabS_ok _ rfl mixed (by decide +kernel) ?_ | refine aw_condT rfl ?_ | refine aw_condF rfl ?_ | refine aw_block ?_ | refine aw_exit ?_ | refine aw_ret ?_ | refine aw_skip ?_ | rw [List.length_map] | rw [mn_norm] | rw [mx_norm])
      refine end_ret (res_of rfl ?_ ?_)
      · repeat' (first | exact trivial | rfl | exact Nat.le_of_ble_eq_true rfl | omega | apply And.intro)
      · first | rfl | (simp only [List.map_append, List.map_cons, List.map_nil, List.nil_append] <;> rfl)
    · rw [q_2, cond_false] at H
      obtain ⟨g3, H⟩ := grd_some H
      replace g3 := of_decide_eq_true g3
      obtain ⟨s_4, u4, H⟩ := bind_some H
      obtain ⟨⟨u4a, u4b, u4c⟩, u4⟩ := subI_some u4
      have u4x := subE (f := (fun x => [AC.lst (x.map cV)])) u4
      obtain ⟨r_5, c5, H⟩ := bind_some H
      replace c5 := hrec c5
      try simp only [List.map_append, List.map_cons, List.map_nil, List.nil_append, tE_eq] at c5
      obtain ⟨s_6, u6, H⟩ := bind_some H
      obtain ⟨⟨u6a, u6b, u6c⟩, u6⟩ := subI_some u6
      have u6x := subE (f := (fun x => [AC.lst (x.map cV)])) u6
      obtain ⟨r_7, c7, H⟩ := bind_some H
      replace c7 := hrec c7
      try simp only [List.map_append, List.map_cons, List.map_nil, List.nil_append, tE_eq] at c7
      obtain ⟨r_8, c8, H⟩ := bind_some H
      replace c8 := gMerged_ok c8
      try simp only [List.map_append, List.map_cons, List.map_nil, List.nil_append, tE_eq] at c8
      obtain rfl := Option.some.inj H
      repeat' (first | refine p_ rfl rfl rfl rfl rfl ?_ | refine st_nil ?_ | refine x_ rfl rfl rfl rfl rfl rfl rfl rfl ?_ | refine l_ rfl rfl rfl rfl ?_ | refine s_ rfl rfl rfl ?_ | refine t_ rfl rfl rfl rfl ?_ | refine k_ rfl rfl rfl ?_ | refine k0_ rfl rfl ?_ | refine c_ rfl rfl rfl rfl ?_ | refine pick_t rfl rfl rfl rfl rfl rfl rfl ?_ | refine pick_f rfl rfl rfl rfl rfl rfl rfl ?_ | refine aw_seq ?_ | refine aw_region tab_ok _ rfl ?_ | refine aw_drawn2 tabS_ok _ rfl mixed (by decide +kernel) ?_ | refine aw_condT rfl ?_ | refine aw_condF rfl ?_ | refine aw_block ?_ | refine aw_exit ?_ | refine aw_ret ?_ | refine aw_skip ?_ | rw [List.length_map] | rw [mn_norm] | rw [mx_norm] | rw [u4x] | rw [u6x] | rw [show ((0 : Nat) : Int) = 0 from rfl])
      refine end_ret (res_of rfl ?_ ?_)
      · repeat' (first | exact trivial | rfl | exact Nat.le_of_ble_eq_true rfl | omega | apply And.intro)
      · first | rfl | (simp only [List.map_append, List.map_cons, List.map_nil, List.nil_append] <;> rfl)
def gOrder : Nat → List (List Val) → List Ord → Option (List (List Val))
  | 0, _, _ => none
  | n + 1, a, b => gOrderB (gOrder n) a b
theorem gOrder_ok : ∀ (n : Nat) {x : List (List Val)} {y : List Ord} {r : List (List Val)}, gOrder n x y = some r → Pure Tryz.prog 96 [.one (.lst (x.map (fun x => [AC.lst (x.map cV)]))), .one (.lst (y.map cOrd))] (.val (.one (.lst (r.map (fun x => [AC.lst (x.map cV)])))))
  | 0, _, _, _, h => nomatch h
  | n + 1, _, _, _, h => gOrderB_ok (gOrder_ok n) h
def gSortR (a_l : (List (List Val))) : Option ((List (List Val))) := (gOrder 64 a_l ([] : (List Ord))).bind fun r_1 => some r_1
theorem gSortR_ok {a_l : (List (List Val))} {r : (List (List Val))} (H : gSortR a_l = some r) : Pure Tryz.prog 61 [.one (.lst (a_l.map (fun x => [AC.lst (x.map cV)])))] (.val (.one (.lst (r.map (fun x => [AC.lst (x.map cV)]))))) := by
  unfold gSortR at H
  refine pure_of_aw tab_ok Tryz.func61 rfl rfl Tryz.ntmps61 (by simp) ?_
  simp only [argT, PV.av, List.map_cons, List.map_nil]
  obtain ⟨r_1, c1, H⟩ := bind_some H
  replace c1 := gOrder_ok 64 c1
  try simp only [List.map_append, List.map_cons, List.map_nil, List.nil_append, tE_eq] at c1
  obtain rfl := Option.some.inj H
  exact go_
end Go.Proofs.YtfccopdbgfdcdaaGreatDoor
