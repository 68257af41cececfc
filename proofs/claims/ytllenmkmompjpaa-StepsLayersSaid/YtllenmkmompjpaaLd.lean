/- Covers of the reference where one list lies within the other, over trees. No condition. -/
import Derived.Test.YtllenmkmompjpaaLc
namespace Go.Proofs.Ytllenmkmompjpaa
open Go.RowKit
set_option maxRecDepth 10000
theorem combined_sub (a b : List (Int × Int)) (ha : a.length ≤ 1000) (hb0 : b.length ≤ 1000) (hsub : ∀ t, (b.any fun p => pcontains p t) = true → (a.any fun p => pcontains p t) = true) : Pure Try.prog 69 [.one (.int .i64 3), .one (vP b), .one (vP a)] (.val (.one (.lst []))) := by
  refine pure_of_aw tab_ok Try.func69 rfl rfl Try.ntmps69 (by simp) ?_
  simp only [argT, PV.av, List.map_cons, List.map_nil]
  have hpts : Pure Try.prog 93 [.one (.lst ([[.int .i64 0, .int .i64 1099511627776]] ++ b.map cP ++ a.map cP))] (.val (.one (vI (pointsL ((0, 1099511627776) :: (b ++ a)))))) := by
    have := points_pure ((0, 1099511627776) :: (b ++ a)) (by simp; omega)
    have e : vP ((0, 1099511627776) :: (b ++ a)) = .lst ([[.int .i64 0, .int .i64 1099511627776]] ++ b.map cP ++ a.map cP) := by simp [vP, cP]
    rw [e] at this; exact this
  have hpl := points_len ((0, 1099511627776) :: (b ++ a))
  simp only [List.length_cons, List.length_append] at hpl
  generalize pointsL ((0, 1099511627776) :: (b ++ a)) = ps at hpts hpl
  repeat' (first
    | refine st_nil ?_
    | (refine st_pop rfl rfl rfl rfl ?_ ?_; · (repeat' (first | exact trivial | rfl | exact Nat.le_of_ble_eq_true rfl | omega | exact cP_wide _ | (intro e he; simp only [List.mem_cons, List.not_mem_nil, or_false] at he; subst he; rfl) | (simp only [List.length_map, List.length_cons, List.length_nil, List.length_append] <;> omega) | apply And.intro)))
    | (refine st_lop rfl rfl rfl rfl ?_ ?_; · (repeat' (first | exact trivial | rfl | exact Nat.le_of_ble_eq_true rfl | omega | exact cP_wide _ | (intro e he; simp only [List.mem_cons, List.not_mem_nil, or_false] at he; subst he; rfl) | (simp only [List.length_map, List.length_cons, List.length_nil, List.length_append] <;> omega) | apply And.intro)))
    | (refine st_store rfl rfl rfl ?_ ?_; · (repeat' (first | exact trivial | rfl | exact Nat.le_of_ble_eq_true rfl | omega | exact cP_wide _ | (intro e he; simp only [List.mem_cons, List.not_mem_nil, or_false] at he; subst he; rfl) | (simp only [List.length_map, List.length_cons, List.length_nil, List.length_append] <;> omega) | apply And.intro)))
    | (refine st_lit rfl rfl rfl rfl ?_ ?_; · (repeat' (first | exact trivial | rfl | exact Nat.le_of_ble_eq_true rfl | omega | exact cP_wide _ | (intro e he; simp only [List.mem_cons, List.not_mem_nil, or_false] at he; subst he; rfl) | (simp only [List.length_map, List.length_cons, List.length_nil, List.length_append] <;> omega) | apply And.intro)))
    | refine st_skip rfl rfl rfl ?_
    | refine st_skip0 rfl rfl ?_
    | refine st_call rfl rfl rfl rfl hpts rfl ?_
    | (refine st_if rfl (fun hb => ?_) (fun hb => ?_) <;> rw [hb])
    | refine aw_seq ?_
    | refine aw_region tab_ok _ rfl ?_
    | refine aw_drawn tab_ok _ rfl mixed (by decide +kernel) ?_
    | (refine aw_cond rfl (fun hb => ?_) (fun hb => ?_) <;> (try (first | (exfalso; revert hb; decide) | (exfalso; simp at hb; done) | (exfalso; simp at hb; omega))))
    | refine aw_block ?_
    | refine aw_exit ?_
    | refine aw_ret ?_
    | refine aw_skip ?_)
  refine aw_loop (fun i : Nat => [(0, .one (.c (.int .i64 3))), (1, .one (.c (vP b))), (2, .one (.c (vP a))), (8, .one (.c (vI ps))), (9, .one .emp), (10, .one (.c (.int .i64 i)))]) (fun _ => []) (fun i => 1 ≤ i) (fun i => ps.length - i) 1 (by omega) (fits_mk (by repeat' (first | exact trivial | rfl | apply And.intro)) _ rfl (by repeat' (first | exact trivial | apply And.intro)) (by repeat' (first | exact trivial | apply And.intro))) ?_
  intro i hi
  by_cases hlt : i < ps.length
  · obtain ⟨x, hx⟩ := get_of_lt (show i - 1 < ps.length by omega)
    have hw : IntKind.i64.wrap ((i : Int) - 1) = ((i - 1 : Nat) : Int) := wrap_eq (by omega) (by omega)
    have hx' : (ps.map cI)[i - 1]? = some (cI x) := by rw [List.getElem?_map, hx]; rfl
    have hfalse : ((b.any fun p => pcontains p x) && !(a.any fun p => pcontains p x)) = false := by
      cases h : b.any fun p => pcontains p x
      · rfl
      · rw [hsub x h]; rfl
    repeat' (first
      | refine st_nil ?_
      | (refine st_pop rfl rfl rfl rfl ?_ ?_; · (repeat' (first | exact trivial | rfl | exact Nat.le_of_ble_eq_true rfl | omega | apply And.intro)))
      | (refine st_idx rfl rfl rfl rfl rfl rfl rfl rfl (idx_at hw hx') ?_ ?_; · exact ⟨by rw [hw]; omega, rfl⟩)
      | (refine st_lop rfl rfl rfl rfl ?_ ?_; · (repeat' (first | exact trivial | rfl | exact Nat.le_of_ble_eq_true rfl | omega | apply And.intro)))
      | (refine st_store rfl rfl rfl ?_ ?_; · (repeat' (first | exact trivial | rfl | exact Nat.le_of_ble_eq_true rfl | omega | apply And.intro)))
      | (refine st_lit rfl rfl rfl rfl ?_ ?_; · (repeat' (first | exact trivial | rfl | exact Nat.le_of_ble_eq_true rfl | omega | apply And.intro)))
      | refine st_skip rfl rfl rfl ?_
      | refine st_skip0 rfl rfl ?_
      | refine st_call rfl rfl rfl rfl (contains_pure _ _ (by omega)) rfl ?_
      | refine st_call rfl rfl rfl rfl (wanted_pure _ _) rfl ?_
      | (refine st_if rfl (fun hb => ?_) (fun hb => ?_) <;> rw [hb])
      | refine aw_seq ?_
      | refine aw_region tab_ok _ rfl ?_
      | refine aw_drawn tab_ok _ rfl mixed (by decide +kernel) ?_
      | (refine aw_cond rfl (fun hb => ?_) (fun hb => ?_) <;> (try (first | (exfalso; revert hb; decide) | (exfalso; simp at hb; done) | (exfalso; simp at hb; omega))))
      | refine aw_block ?_
      | refine aw_exit ?_
      | refine aw_ret ?_
      | refine aw_skip ?_)
    · exfalso; rw [hfalse] at hb; cases hb
    · exact ⟨i + 1, by omega, by omega, fits_mk ⟨rfl, rfl, rfl, rfl, rfl, slot_int (wrap_eq (by omega) (by omega)), trivial⟩ [] rfl (by repeat' (first | exact trivial | apply And.intro)) (by repeat' (first | exact trivial | apply And.intro))⟩
  · have hps : ps.length ≤ i := by omega
    repeat' (first
      | refine st_nil ?_
      | (refine st_pop rfl rfl rfl rfl ?_ ?_; · (repeat' (first | exact trivial | rfl | exact Nat.le_of_ble_eq_true rfl | omega | apply And.intro)))
      | (refine st_lop rfl rfl rfl rfl ?_ ?_; · (repeat' (first | exact trivial | rfl | exact Nat.le_of_ble_eq_true rfl | omega | apply And.intro)))
      | (refine st_store rfl rfl rfl ?_ ?_; · (repeat' (first | exact trivial | rfl | exact Nat.le_of_ble_eq_true rfl | omega | apply And.intro)))
      | (refine st_lit rfl rfl rfl rfl ?_ ?_; · (repeat' (first | exact trivial | rfl | exact Nat.le_of_ble_eq_true rfl | omega | apply And.intro)))
      | refine st_skip rfl rfl rfl ?_
      | refine st_skip0 rfl rfl ?_
      | (refine st_if rfl (fun hb => ?_) (fun hb => ?_) <;> rw [hb])
      | refine aw_seq ?_
      | refine aw_region tab_ok _ rfl ?_
      | refine aw_drawn tab_ok _ rfl mixed (by decide +kernel) ?_
      | (refine aw_cond rfl (fun hb => ?_) (fun hb => ?_) <;> (try (first | (exfalso; revert hb; decide) | (exfalso; simp at hb; done) | (exfalso; simp at hb; omega))))
      | refine aw_block ?_
      | refine aw_exit ?_
      | refine aw_ret ?_
      | refine aw_skip ?_)
    exact end_ret (res_of rfl (by trivial) rfl)
theorem subtract_sub (a b : List (Int × Int)) (ha : a.length ≤ 1000) (hb0 : b.length ≤ 1000) (hsub : ∀ t, (b.any fun p => pcontains p t) = true → (a.any fun p => pcontains p t) = true) : Pure Try.prog 56 [.one (vP b), .one (vP a)] (.val (.one (.lst []))) := by
  refine pure_of_aw tab_ok Try.func56 rfl rfl Try.ntmps56 (by simp) ?_
  simp only [argT, PV.av, List.map_cons, List.map_nil]
  repeat' (first
    | refine st_nil ?_
    | (refine st_pop rfl rfl rfl rfl ?_ ?_; · (repeat' (first | exact trivial | rfl | exact Nat.le_of_ble_eq_true rfl | omega | apply And.intro)))
    | (refine st_lop rfl rfl rfl rfl ?_ ?_; · (repeat' (first | exact trivial | rfl | exact Nat.le_of_ble_eq_true rfl | omega | apply And.intro)))
    | (refine st_store rfl rfl rfl ?_ ?_; · (repeat' (first | exact trivial | rfl | exact Nat.le_of_ble_eq_true rfl | omega | apply And.intro)))
    | (refine st_lit rfl rfl rfl rfl ?_ ?_; · (repeat' (first | exact trivial | rfl | exact Nat.le_of_ble_eq_true rfl | omega | apply And.intro)))
    | refine st_skip rfl rfl rfl ?_
    | refine st_skip0 rfl rfl ?_
    | refine st_call rfl rfl rfl rfl (combined_sub a b ha hb0 hsub) rfl ?_
    | (refine st_if rfl (fun hb => ?_) (fun hb => ?_) <;> rw [hb])
    | refine aw_seq ?_
    | refine aw_region tab_ok _ rfl ?_
    | refine aw_drawn tab_ok _ rfl mixed (by decide +kernel) ?_
    | (refine aw_cond rfl (fun hb => ?_) (fun hb => ?_) <;> (try (first | (exfalso; revert hb; decide) | (exfalso; simp at hb; done) | (exfalso; simp at hb; omega))))
    | refine aw_block ?_
    | refine aw_exit ?_
    | refine aw_ret ?_
    | refine aw_skip ?_)
  exact end_ret (res_of rfl (by trivial) rfl)
theorem covers_sub (a b : List (Int × Int)) (ha : a.length ≤ 1000) (hb0 : b.length ≤ 1000) (hsub : ∀ t, (b.any fun p => pcontains p t) = true → (a.any fun p => pcontains p t) = true) : Pure Try.prog 24 [.one (vP a), .one (vP b)] (vBool true) := by
  refine pure_of_aw tab_ok Try.func24 rfl rfl Try.ntmps24 (by simp) ?_
  simp only [argT, PV.av, List.map_cons, List.map_nil]
  repeat' (first
    | refine st_nil ?_
    | (refine st_pop rfl rfl rfl rfl ?_ ?_; · (repeat' (first | exact trivial | rfl | exact Nat.le_of_ble_eq_true rfl | omega | apply And.intro)))
    | (refine st_lop rfl rfl rfl rfl ?_ ?_; · (repeat' (first | exact trivial | rfl | exact Nat.le_of_ble_eq_true rfl | omega | apply And.intro)))
    | (refine st_store rfl rfl rfl ?_ ?_; · (repeat' (first | exact trivial | rfl | exact Nat.le_of_ble_eq_true rfl | omega | apply And.intro)))
    | (refine st_lit rfl rfl rfl rfl ?_ ?_; · (repeat' (first | exact trivial | rfl | exact Nat.le_of_ble_eq_true rfl | omega | apply And.intro)))
    | refine st_skip rfl rfl rfl ?_
    | refine st_skip0 rfl rfl ?_
    | refine st_call rfl rfl rfl rfl (subtract_sub a b ha hb0 hsub) rfl ?_
    | (refine st_if rfl (fun hb => ?_) (fun hb => ?_) <;> rw [hb])
    | refine aw_seq ?_
    | refine aw_region tab_ok _ rfl ?_
    | refine aw_drawn tab_ok _ rfl mixed (by decide +kernel) ?_
    | (refine aw_cond rfl (fun hb => ?_) (fun hb => ?_) <;> (try (first | (exfalso; revert hb; decide) | (exfalso; simp at hb; done) | (exfalso; simp at hb; omega))))
    | refine aw_block ?_
    | refine aw_exit ?_
    | refine aw_ret ?_
    | refine aw_skip ?_)
  exact end_ret (res_of rfl (by trivial) rfl)
end Go.Proofs.Ytllenmkmompjpaa
