/- Functions that StepsLayers of bitemporallaw04 calls, over trees. No condition. -/
import Derived.Test.YtllenmkmompjpaaLb
import Derived.Test.YtllenmkmompjpaaTab
namespace Go.Proofs.Ytllenmkmompjpaa
open Go.RowKit
set_option maxRecDepth 10000
theorem cP_wide (l : List (Int × Int)) : ∀ e ∈ l.map cP, e.length = 2 := by intro e he; simp only [List.mem_map] at he; obtain ⟨x, _, rfl⟩ := he; rfl
theorem pvalid_pure (a b : Int) : Pure Try.prog 45 [.agg [.int .i64 a, .int .i64 b]] (vBool (pvalid (a, b))) := by
  refine pure_of_aw tab_ok Try.func45 rfl rfl Try.ntmps45 (by simp) ?_
  simp only [argT, PV.av, List.map_cons, List.map_nil]
  repeat' (first
    | refine st_nil ?_
    | (refine st_pop rfl rfl rfl rfl ?_ ?_; · (repeat' (first | exact trivial | rfl | exact Nat.le_of_ble_eq_true rfl | omega | apply And.intro)))
    | (refine st_lop rfl rfl rfl rfl ?_ ?_; · (repeat' (first | exact trivial | rfl | exact Nat.le_of_ble_eq_true rfl | omega | apply And.intro)))
    | (refine st_store rfl rfl rfl ?_ ?_; · (repeat' (first | exact trivial | rfl | exact Nat.le_of_ble_eq_true rfl | omega | apply And.intro)))
    | (refine st_lit rfl rfl rfl rfl ?_ ?_; · (repeat' (first | exact trivial | rfl | exact Nat.le_of_ble_eq_true rfl | omega | apply And.intro)))
    | refine st_skip rfl rfl rfl ?_
    | refine st_skip0 rfl rfl ?_
    | (refine st_if rfl (fun hb => ?_) (fun hb => ?_) <;> rw [hb])
    | refine aw_seq ?_
    | refine aw_region tab_ok _ rfl ?_
    | refine aw_drawn tab_ok _ rfl mixed (by decide +kernel) ?_
    | (refine aw_cond rfl (fun hb => ?_) (fun hb => ?_) <;> (try (first | (exfalso; revert hb; decide) | (exfalso; simp at hb; done) | (exfalso; simp at hb; omega))))
    | refine aw_block ?_
    | refine aw_exit ?_
    | refine aw_ret ?_
    | refine aw_skip ?_)
  all_goals (refine end_ret (res_of rfl (by trivial) (vBool_eq ?_)); simp only [pvalid, *]; try rfl)
theorem pcontains_pure (a b t : Int) : Pure Try.prog 47 [.agg [.int .i64 a, .int .i64 b], .one (.int .i64 t)] (vBool (pcontains (a, b) t)) := by
  refine pure_of_aw tab_ok Try.func47 rfl rfl Try.ntmps47 (by simp) ?_
  simp only [argT, PV.av, List.map_cons, List.map_nil]
  repeat' (first
    | refine st_nil ?_
    | (refine st_pop rfl rfl rfl rfl ?_ ?_; · (repeat' (first | exact trivial | rfl | exact Nat.le_of_ble_eq_true rfl | omega | apply And.intro)))
    | (refine st_lop rfl rfl rfl rfl ?_ ?_; · (repeat' (first | exact trivial | rfl | exact Nat.le_of_ble_eq_true rfl | omega | apply And.intro)))
    | (refine st_store rfl rfl rfl ?_ ?_; · (repeat' (first | exact trivial | rfl | exact Nat.le_of_ble_eq_true rfl | omega | apply And.intro)))
    | (refine st_lit rfl rfl rfl rfl ?_ ?_; · (repeat' (first | exact trivial | rfl | exact Nat.le_of_ble_eq_true rfl | omega | apply And.intro)))
    | refine st_skip rfl rfl rfl ?_
    | refine st_skip0 rfl rfl ?_
    | refine st_call rfl rfl rfl rfl (pvalid_pure _ _) rfl ?_
    | (refine st_if rfl (fun hb => ?_) (fun hb => ?_) <;> rw [hb])
    | refine aw_seq ?_
    | refine aw_region tab_ok _ rfl ?_
    | refine aw_drawn tab_ok _ rfl mixed (by decide +kernel) ?_
    | (refine aw_cond rfl (fun hb => ?_) (fun hb => ?_) <;> (try (first | (exfalso; revert hb; decide) | (exfalso; simp at hb; done) | (exfalso; simp at hb; omega))))
    | refine aw_block ?_
    | refine aw_exit ?_
    | refine aw_ret ?_
    | refine aw_skip ?_)
  all_goals (refine end_ret (res_of rfl (by trivial) (vBool_eq ?_)); simp only [pcontains, *]; try rfl)
theorem poverlaps_pure (a b c d : Int) : Pure Try.prog 25 [.agg [.int .i64 a, .int .i64 b], .agg [.int .i64 c, .int .i64 d]] (vBool (poverlaps (a, b) (c, d))) := by
  refine pure_of_aw tab_ok Try.func25 rfl rfl Try.ntmps25 (by simp) ?_
  simp only [argT, PV.av, List.map_cons, List.map_nil]
  repeat' (first
    | refine st_nil ?_
    | (refine st_pop rfl rfl rfl rfl ?_ ?_; · (repeat' (first | exact trivial | rfl | exact Nat.le_of_ble_eq_true rfl | omega | apply And.intro)))
    | (refine st_lop rfl rfl rfl rfl ?_ ?_; · (repeat' (first | exact trivial | rfl | exact Nat.le_of_ble_eq_true rfl | omega | apply And.intro)))
    | (refine st_store rfl rfl rfl ?_ ?_; · (repeat' (first | exact trivial | rfl | exact Nat.le_of_ble_eq_true rfl | omega | apply And.intro)))
    | (refine st_lit rfl rfl rfl rfl ?_ ?_; · (repeat' (first | exact trivial | rfl | exact Nat.le_of_ble_eq_true rfl | omega | apply And.intro)))
    | refine st_skip rfl rfl rfl ?_
    | refine st_skip0 rfl rfl ?_
    | refine st_call rfl rfl rfl rfl (pvalid_pure _ _) rfl ?_
    | (refine st_if rfl (fun hb => ?_) (fun hb => ?_) <;> rw [hb])
    | refine aw_seq ?_
    | refine aw_region tab_ok _ rfl ?_
    | refine aw_drawn tab_ok _ rfl mixed (by decide +kernel) ?_
    | (refine aw_cond rfl (fun hb => ?_) (fun hb => ?_) <;> (try (first | (exfalso; revert hb; decide) | (exfalso; simp at hb; done) | (exfalso; simp at hb; omega))))
    | refine aw_block ?_
    | refine aw_exit ?_
    | refine aw_ret ?_
    | refine aw_skip ?_)
  all_goals (refine end_ret (res_of rfl (by trivial) (vBool_eq ?_)); simp only [poverlaps, *]; try rfl)
theorem pcovers_pure (a b c d : Int) : Pure Try.prog 26 [.agg [.int .i64 a, .int .i64 b], .agg [.int .i64 c, .int .i64 d]] (vBool (pcovers (a, b) (c, d))) := by
  refine pure_of_aw tab_ok Try.func26 rfl rfl Try.ntmps26 (by simp) ?_
  simp only [argT, PV.av, List.map_cons, List.map_nil]
  repeat' (first
    | refine st_nil ?_
    | (refine st_pop rfl rfl rfl rfl ?_ ?_; · (repeat' (first | exact trivial | rfl | exact Nat.le_of_ble_eq_true rfl | omega | apply And.intro)))
    | (refine st_lop rfl rfl rfl rfl ?_ ?_; · (repeat' (first | exact trivial | rfl | exact Nat.le_of_ble_eq_true rfl | omega | apply And.intro)))
    | (refine st_store rfl rfl rfl ?_ ?_; · (repeat' (first | exact trivial | rfl | exact Nat.le_of_ble_eq_true rfl | omega | apply And.intro)))
    | (refine st_lit rfl rfl rfl rfl ?_ ?_; · (repeat' (first | exact trivial | rfl | exact Nat.le_of_ble_eq_true rfl | omega | apply And.intro)))
    | refine st_skip rfl rfl rfl ?_
    | refine st_skip0 rfl rfl ?_
    | refine st_call rfl rfl rfl rfl (pvalid_pure _ _) rfl ?_
    | (refine st_if rfl (fun hb => ?_) (fun hb => ?_) <;> rw [hb])
    | refine aw_seq ?_
    | refine aw_region tab_ok _ rfl ?_
    | refine aw_drawn tab_ok _ rfl mixed (by decide +kernel) ?_
    | (refine aw_cond rfl (fun hb => ?_) (fun hb => ?_) <;> (try (first | (exfalso; revert hb; decide) | (exfalso; simp at hb; done) | (exfalso; simp at hb; omega))))
    | refine aw_block ?_
    | refine aw_exit ?_
    | refine aw_ret ?_
    | refine aw_skip ?_)
  all_goals (refine end_ret (res_of rfl (by trivial) (vBool_eq ?_)); simp only [pcovers, *]; try rfl)
theorem contains_pure (l : List (Int × Int)) (t : Int) (hl : l.length < 4611686018427387904) : Pure Try.prog 95 [.one (vP l), .one (.int .i64 t)] (vBool (l.any fun p => pcontains p t)) := by
  refine pure_of_aw tab_ok Try.func95 rfl rfl Try.ntmps95 (by simp) ?_
  simp only [argT, PV.av, List.map_cons, List.map_nil]
  repeat' (first
    | refine st_nil ?_
    | (refine st_pop rfl rfl rfl rfl ?_ ?_; · (repeat' (first | exact trivial | rfl | exact Nat.le_of_ble_eq_true rfl | omega | apply And.intro)))
    | (refine st_lop rfl rfl rfl rfl ?_ ?_; · (repeat' (first | exact trivial | rfl | exact Nat.le_of_ble_eq_true rfl | omega | apply And.intro)))
    | (refine st_store rfl rfl rfl ?_ ?_; · (repeat' (first | exact trivial | rfl | exact Nat.le_of_ble_eq_true rfl | omega | apply And.intro)))
    | (refine st_lit rfl rfl rfl rfl ?_ ?_; · (repeat' (first | exact trivial | rfl | exact Nat.le_of_ble_eq_true rfl | omega | apply And.intro)))
    | refine st_skip rfl rfl rfl ?_
    | refine st_skip0 rfl rfl ?_
    | (refine st_if rfl (fun hb => ?_) (fun hb => ?_) <;> rw [hb])
    | refine aw_seq ?_
    | refine aw_region tab_ok _ rfl ?_
    | refine aw_drawn tab_ok _ rfl mixed (by decide +kernel) ?_
    | (refine aw_cond rfl (fun hb => ?_) (fun hb => ?_) <;> (try (first | (exfalso; revert hb; decide) | (exfalso; simp at hb; done) | (exfalso; simp at hb; omega))))
    | refine aw_block ?_
    | refine aw_exit ?_
    | refine aw_ret ?_
    | refine aw_skip ?_)
  refine aw_loop (fun i : Nat => [(0, .one (.c (vP l))), (1, .one (.c (.int .i64 t))), (5, .one (.c (.int .i64 i)))]) (fun _ => []) (fun i => i ≤ l.length ∧ ((l.take i).any fun p => pcontains p t) = false) (fun i => l.length - i) 0 ⟨by omega, rfl⟩ (fits_mk (by repeat' (first | exact trivial | rfl | apply And.intro)) [] rfl (by repeat' (first | exact trivial | apply And.intro)) (by repeat' (first | exact trivial | apply And.intro))) ?_
  rintro i ⟨hi, hno⟩
  by_cases hlt : i < l.length
  · obtain ⟨x, hx⟩ := get_of_lt hlt
    repeat' (first
      | refine st_nil ?_
      | (refine st_pop rfl rfl rfl rfl ?_ ?_; · (repeat' (first | exact trivial | rfl | exact Nat.le_of_ble_eq_true rfl | omega | apply And.intro)))
      | (refine st_idx rfl rfl rfl rfl rfl rfl rfl rfl (idx_map hx) ?_ ?_; · exact ⟨by omega, rfl⟩)
      | (refine st_lop rfl rfl rfl rfl ?_ ?_; · (repeat' (first | exact trivial | rfl | exact Nat.le_of_ble_eq_true rfl | omega | apply And.intro)))
      | (refine st_store rfl rfl rfl ?_ ?_; · (repeat' (first | exact trivial | rfl | exact Nat.le_of_ble_eq_true rfl | omega | apply And.intro)))
      | (refine st_lit rfl rfl rfl rfl ?_ ?_; · (repeat' (first | exact trivial | rfl | exact Nat.le_of_ble_eq_true rfl | omega | apply And.intro)))
      | refine st_skip rfl rfl rfl ?_
      | refine st_skip0 rfl rfl ?_
      | refine st_call rfl rfl rfl rfl (pcontains_pure _ _ _) rfl ?_
      | (refine st_if rfl (fun hb => ?_) (fun hb => ?_) <;> rw [hb])
      | refine aw_seq ?_
      | refine aw_region tab_ok _ rfl ?_
      | refine aw_drawn tab_ok _ rfl mixed (by decide +kernel) ?_
      | (refine aw_cond rfl (fun hb => ?_) (fun hb => ?_) <;> (try (first | (exfalso; revert hb; decide) | (exfalso; simp at hb; done) | (exfalso; simp at hb; omega))))
      | refine aw_block ?_
      | refine aw_exit ?_
      | refine aw_ret ?_
      | refine aw_skip ?_)
    · refine end_ret (res_of rfl (by trivial) (vBool_eq ?_))
      symm
      rw [List.any_eq_true]
      exact ⟨x, List.mem_of_getElem? hx, hb⟩
    · exact ⟨i + 1, ⟨by omega, by rw [take_succ hx, List.any_append, hno]; simp; exact hb⟩, by omega, fits_mk ⟨rfl, rfl, slot_int (wrap_eq (by omega) (by omega)), trivial⟩ [] rfl (by repeat' (first | exact trivial | apply And.intro)) (by repeat' (first | exact trivial | apply And.intro))⟩
  · have hl2 : i = l.length := by omega
    repeat' (first
      | refine st_nil ?_
      | (refine st_pop rfl rfl rfl rfl ?_ ?_; · (repeat' (first | exact trivial | rfl | exact Nat.le_of_ble_eq_true rfl | omega | apply And.intro)))
      | (refine st_lop rfl rfl rfl rfl ?_ ?_; · (repeat' (first | exact trivial | rfl | exact Nat.le_of_ble_eq_true rfl | omega | apply And.intro)))
      | (refine st_store rfl rfl rfl ?_ ?_; · (repeat' (first | exact trivial | rfl | exact Nat.le_of_ble_eq_true rfl | omega | apply And.intro)))
      | (refine st_lit rfl rfl rfl rfl ?_ ?_; · (repeat' (first | exact trivial | rfl | exact Nat.le_of_ble_eq_true rfl | omega | apply And.intro)))
      | refine st_skip rfl rfl rfl ?_
      | refine st_skip0 rfl rfl ?_
      | (refine st_if rfl (fun hb => ?_) (fun hb => ?_) <;> rw [hb])
      | refine aw_seq ?_
      | refine aw_region tab_ok _ rfl ?_
      | refine aw_drawn tab_ok _ rfl mixed (by decide +kernel) ?_
      | (refine aw_cond rfl (fun hb => ?_) (fun hb => ?_) <;> (try (first | (exfalso; revert hb; decide) | (exfalso; simp at hb; done) | (exfalso; simp at hb; omega))))
      | refine aw_block ?_
      | refine aw_exit ?_
      | refine aw_ret ?_
      | refine aw_skip ?_)
    refine end_ret (res_of rfl (by trivial) (vBool_eq ?_))
    rw [hl2, List.take_length] at hno
    exact hno.symm
def ptStep (out : List Int) (p : Int × Int) : List Int := if pvalid p then ins p.2 (ins p.1 out) else out
def pointsL (l : List (Int × Int)) : List Int := l.foldl ptStep []
theorem ptStep_len (out : List Int) (p : Int × Int) : (ptStep out p).length ≤ out.length + 2 := by
  unfold ptStep
  split
  · have h1 := ins_len p.2 (ins p.1 out); have h2 := ins_len p.1 out; omega
  · omega
theorem points_len' : ∀ (l : List (Int × Int)) (out : List Int), (l.foldl ptStep out).length ≤ out.length + 2 * l.length
  | [], out => by simp
  | p :: l, out => by
    have h1 := points_len' l (ptStep out p)
    have h2 := ptStep_len out p
    simp only [List.foldl_cons, List.length_cons]
    omega
theorem points_len (l : List (Int × Int)) : (pointsL l).length ≤ 2 * l.length := by have := points_len' l []; simp at this; exact this
theorem points_snoc {l : List (Int × Int)} {i : Nat} {x : Int × Int} (h : l[i]? = some x) : pointsL (l.take (i + 1)) = ptStep (pointsL (l.take i)) x := by
  rw [take_succ h]; unfold pointsL; rw [List.foldl_append]; rfl
theorem points_pure (l : List (Int × Int)) (hl : l.length ≤ 10000) : Pure Try.prog 93 [.one (vP l)] (.val (.one (vI (pointsL l)))) := by
  refine pure_of_aw tab_ok Try.func93 rfl rfl Try.ntmps93 (by simp) ?_
  simp only [argT, PV.av, List.map_cons, List.map_nil]
  repeat' (first
    | refine st_nil ?_
    | (refine st_pop rfl rfl rfl rfl ?_ ?_; · (repeat' (first | exact trivial | rfl | exact Nat.le_of_ble_eq_true rfl | omega | apply And.intro)))
    | (refine st_lop rfl rfl rfl rfl ?_ ?_; · (repeat' (first | exact trivial | rfl | exact Nat.le_of_ble_eq_true rfl | omega | apply And.intro)))
    | (refine st_store rfl rfl rfl ?_ ?_; · (repeat' (first | exact trivial | rfl | exact Nat.le_of_ble_eq_true rfl | omega | apply And.intro)))
    | (refine st_lit rfl rfl rfl rfl ?_ ?_; · (repeat' (first | exact trivial | rfl | exact Nat.le_of_ble_eq_true rfl | omega | apply And.intro)))
    | refine st_skip rfl rfl rfl ?_
    | refine st_skip0 rfl rfl ?_
    | (refine st_if rfl (fun hb => ?_) (fun hb => ?_) <;> rw [hb])
    | refine aw_seq ?_
    | refine aw_region tab_ok _ rfl ?_
    | refine aw_drawn tab_ok _ rfl mixed (by decide +kernel) ?_
    | (refine aw_cond rfl (fun hb => ?_) (fun hb => ?_) <;> (try (first | (exfalso; revert hb; decide) | (exfalso; simp at hb; done) | (exfalso; simp at hb; omega))))
    | refine aw_block ?_
    | refine aw_exit ?_
    | refine aw_ret ?_
    | refine aw_skip ?_)
  refine aw_norm 3 rfl rfl ?_
  refine aw_loop (fun i : Nat => [(0, .one (.c (vP l))), (3, .one (.c (vI (pointsL (l.take i))))), (4, .one (.c (.int .i64 i)))]) (fun _ => []) (fun i => i ≤ l.length) (fun i => l.length - i) 0 (by omega) (fits_mk (by repeat' (first | exact trivial | rfl | apply And.intro)) [] rfl (by repeat' (first | exact trivial | apply And.intro)) (by repeat' (first | exact trivial | apply And.intro))) ?_
  intro i hi
  have hb1 := points_len (l.take i)
  rw [List.length_take] at hb1
  by_cases hlt : i < l.length
  · obtain ⟨x, hx⟩ := get_of_lt hlt
    have hb2 := ins_len x.1 (pointsL (l.take i))
    repeat' (first
      | refine st_nil ?_
      | (refine st_pop rfl rfl rfl rfl ?_ ?_; · (repeat' (first | exact trivial | rfl | exact Nat.le_of_ble_eq_true rfl | omega | apply And.intro)))
      | (refine st_idx rfl rfl rfl rfl rfl rfl rfl rfl (idx_map hx) ?_ ?_; · exact ⟨by omega, rfl⟩)
      | (refine st_lop rfl rfl rfl rfl ?_ ?_; · (repeat' (first | exact trivial | rfl | exact Nat.le_of_ble_eq_true rfl | omega | apply And.intro)))
      | (refine st_store rfl rfl rfl ?_ ?_; · (repeat' (first | exact trivial | rfl | exact Nat.le_of_ble_eq_true rfl | omega | apply And.intro)))
      | (refine st_lit rfl rfl rfl rfl ?_ ?_; · (repeat' (first | exact trivial | rfl | exact Nat.le_of_ble_eq_true rfl | omega | apply And.intro)))
      | refine st_skip rfl rfl rfl ?_
      | refine st_skip0 rfl rfl ?_
      | refine st_call rfl rfl rfl rfl (pvalid_pure _ _) rfl ?_
      | refine st_call rfl rfl rfl rfl (insert_pure _ _ (by omega)) rfl ?_
      | (refine st_if rfl (fun hb => ?_) (fun hb => ?_) <;> rw [hb])
      | refine aw_seq ?_
      | refine aw_region tab_ok _ rfl ?_
      | refine aw_drawn tab_ok _ rfl mixed (by decide +kernel) ?_
      | (refine aw_cond rfl (fun hb => ?_) (fun hb => ?_) <;> (try (first | (exfalso; revert hb; decide) | (exfalso; simp at hb; done) | (exfalso; simp at hb; omega))))
      | refine aw_block ?_
      | refine aw_exit ?_
      | refine aw_ret ?_
      | refine aw_skip ?_)
    · exact ⟨i + 1, by omega, by omega, fits_mk ⟨rfl, slot_lst (by rw [points_snoc hx]; unfold ptStep; rw [if_pos hb]), slot_int (wrap_eq (by omega) (by omega)), trivial⟩ [] rfl (by repeat' (first | exact trivial | apply And.intro)) (by repeat' (first | exact trivial | apply And.intro))⟩
    · exact ⟨i + 1, by omega, by omega, fits_mk ⟨rfl, slot_lst (by rw [points_snoc hx]; unfold ptStep; rw [if_neg (by rw [hb]; decide)]), slot_int (wrap_eq (by omega) (by omega)), trivial⟩ [] rfl (by repeat' (first | exact trivial | apply And.intro)) (by repeat' (first | exact trivial | apply And.intro))⟩
  · have hl2 : l.take i = l := List.take_of_length_le (by omega)
    repeat' (first
      | refine st_nil ?_
      | (refine st_pop rfl rfl rfl rfl ?_ ?_; · (repeat' (first | exact trivial | rfl | exact Nat.le_of_ble_eq_true rfl | omega | apply And.intro)))
      | (refine st_lop rfl rfl rfl rfl ?_ ?_; · (repeat' (first | exact trivial | rfl | exact Nat.le_of_ble_eq_true rfl | omega | apply And.intro)))
      | (refine st_store rfl rfl rfl ?_ ?_; · (repeat' (first | exact trivial | rfl | exact Nat.le_of_ble_eq_true rfl | omega | apply And.intro)))
      | (refine st_lit rfl rfl rfl rfl ?_ ?_; · (repeat' (first | exact trivial | rfl | exact Nat.le_of_ble_eq_true rfl | omega | apply And.intro)))
      | refine st_skip rfl rfl rfl ?_
      | refine st_skip0 rfl rfl ?_
      | (refine st_if rfl (fun hb => ?_) (fun hb => ?_) <;> rw [hb])
      | refine aw_seq ?_
      | refine aw_region tab_ok _ rfl ?_
      | refine aw_drawn tab_ok _ rfl mixed (by decide +kernel) ?_
      | (refine aw_cond rfl (fun hb => ?_) (fun hb => ?_) <;> (try (first | (exfalso; revert hb; decide) | (exfalso; simp at hb; done) | (exfalso; simp at hb; omega))))
      | refine aw_block ?_
      | refine aw_exit ?_
      | refine aw_ret ?_
      | refine aw_skip ?_)
    refine end_ret (res_of rfl (by trivial) ?_)
    rw [hl2]; rfl
theorem wanted_pure (a b : Bool) : Pure Try.prog 94 [.one (.int .i64 3), .one (.bool a), .one (.bool b)] (vBool (a && !b)) := by
  refine pure_of_aw tab_ok Try.func94 rfl rfl Try.ntmps94 (by simp) ?_
  simp only [argT, PV.av, List.map_cons, List.map_nil]
  cases a <;> cases b
  all_goals
    repeat' (first
      | refine st_nil ?_
      | (refine st_pop rfl rfl rfl rfl ?_ ?_; · (repeat' (first | exact trivial | rfl | exact Nat.le_of_ble_eq_true rfl | omega | apply And.intro)))
      | (refine st_lop rfl rfl rfl rfl ?_ ?_; · (repeat' (first | exact trivial | rfl | exact Nat.le_of_ble_eq_true rfl | omega | apply And.intro)))
      | (refine st_store rfl rfl rfl ?_ ?_; · (repeat' (first | exact trivial | rfl | exact Nat.le_of_ble_eq_true rfl | omega | apply And.intro)))
      | (refine st_lit rfl rfl rfl rfl ?_ ?_; · (repeat' (first | exact trivial | rfl | exact Nat.le_of_ble_eq_true rfl | omega | apply And.intro)))
      | refine st_skip rfl rfl rfl ?_
      | refine st_skip0 rfl rfl ?_
      | (refine st_if rfl (fun hb => ?_) (fun hb => ?_) <;> rw [hb])
      | refine aw_seq ?_
      | refine aw_region tab_ok _ rfl ?_
      | refine aw_drawn tab_ok _ rfl mixed (by decide +kernel) ?_
      | (refine aw_cond rfl (fun hb => ?_) (fun hb => ?_) <;> (try (first | (exfalso; revert hb; decide) | (exfalso; simp at hb; done) | (exfalso; simp at hb; omega))))
      | refine aw_block ?_
      | refine aw_exit ?_
      | refine aw_ret ?_
      | refine aw_skip ?_)
  all_goals exact end_ret (res_of rfl (by trivial) rfl)
end Go.Proofs.Ytllenmkmompjpaa
