/- Walks of the small functions on periods and numbers. Each returns what the plain function of the same meaning computes. No condition. -/
import Derived.Test.YtllenmkmompjpaaW1
import Derived.BigGuardPart
namespace Go.Proofs.Ytllenmkmompjpaa
open Go.RowKit

set_option maxHeartbeats 400000 in
theorem pvalid_ref (x y : Int) (w : World) :
    Calls Try.prog 45 #[.agg #[.int .i64 x, .int .i64 y]] w fun e w' => e = .returned (.bool (pvalid (x, y))) ∧ Gr w w' := by
  go_enter Try.func45, Try.ntmps45
  go_wp2
  all_goals
    go_ret
    refine ⟨ret_bool (by simp [pvalid]; omega), ?_⟩
    first | exact Gr.refl _ | (repeat (first | exact Gr.refl _ | assumption | exact Gr.alloc _ _ | refine Gr.allocR ?_ _ | refine Gr.drewNR ?_ _ | refine Gr.drewR ?_ | refine Gr.trans ?_ (by assumption)))

set_option maxHeartbeats 400000 in
theorem pvalid_prog (x y : Int) (w : World) :
    Calls Try.prog 41 #[.agg #[.int .i64 x, .int .i64 y]] w fun e w' => e = .returned (.bool (pvalid (x, y))) ∧ Gr w w' := by
  go_enter Try.func41, Try.ntmps41
  go_wp2
  all_goals
    go_ret
    refine ⟨ret_bool (by simp [pvalid]; omega), ?_⟩
    first | exact Gr.refl _ | (repeat (first | exact Gr.refl _ | assumption | exact Gr.alloc _ _ | refine Gr.allocR ?_ _ | refine Gr.drewNR ?_ _ | refine Gr.drewR ?_ | refine Gr.trans ?_ (by assumption)))

set_option maxHeartbeats 400000 in
theorem pcontains_ref (x y t : Int) (w : World) :
    Calls Try.prog 47 #[.agg #[.int .i64 x, .int .i64 y], .int .i64 t] w fun e w' => e = .returned (.bool (pcontains (x, y) t)) ∧ Gr w w' := by
  go_enter Try.func47, Try.ntmps47
  go_wp2_with (first | (go_at_call 45; refine (pvalid_ref _ _ _).mono ?_; rintro e w' ⟨rfl, hb⟩; have hz := hb.size; (try simp only [World.size_alloc] at hz); have z0 : w.heap.size < w'.heap.size := (by omega); obtain ⟨hc, hf⟩ := hb.cells))
  all_goals
    go_ret
    refine ⟨ret_bool (by simp_all [pcontains]; try omega), ?_⟩
    first | exact Gr.refl _ | (repeat (first | exact Gr.refl _ | assumption | exact Gr.alloc _ _ | refine Gr.allocR ?_ _ | refine Gr.drewNR ?_ _ | refine Gr.drewR ?_ | refine Gr.trans ?_ (by assumption)))

set_option maxHeartbeats 400000 in
theorem pcovers_ref (x y u v : Int) (w : World) :
    Calls Try.prog 26 #[.agg #[.int .i64 x, .int .i64 y], .agg #[.int .i64 u, .int .i64 v]] w fun e w' => e = .returned (.bool (pcovers (x, y) (u, v))) ∧ Gr w w' := by
  go_enter Try.func26, Try.ntmps26
  go_wp2_with (first | (go_at_call 45; refine (pvalid_ref _ _ _).mono ?_; rintro e w' ⟨rfl, hb⟩; have hz := hb.size; (try simp only [World.size_alloc] at hz); have z0 : w.heap.size < w'.heap.size := (by omega); have z1 : w.heap.size + 1 < w'.heap.size := (by omega); obtain ⟨hc, hf⟩ := hb.cells))
  all_goals
    go_ret
    refine ⟨ret_bool (by simp_all [pcovers]; try omega), ?_⟩
    first | exact Gr.refl _ | (repeat (first | exact Gr.refl _ | assumption | exact Gr.alloc _ _ | refine Gr.allocR ?_ _ | refine Gr.drewNR ?_ _ | refine Gr.drewR ?_ | refine Gr.trans ?_ (by assumption)))

set_option maxHeartbeats 400000 in
theorem poverlaps_ref (x y u v : Int) (w : World) :
    Calls Try.prog 25 #[.agg #[.int .i64 x, .int .i64 y], .agg #[.int .i64 u, .int .i64 v]] w fun e w' => e = .returned (.bool (poverlaps (x, y) (u, v))) ∧ Gr w w' := by
  go_enter Try.func25, Try.ntmps25
  go_wp2_with (first | (go_at_call 45; refine (pvalid_ref _ _ _).mono ?_; rintro e w' ⟨rfl, hb⟩; have hz := hb.size; (try simp only [World.size_alloc] at hz); have z0 : w.heap.size < w'.heap.size := (by omega); have z1 : w.heap.size + 1 < w'.heap.size := (by omega); obtain ⟨hc, hf⟩ := hb.cells))
  all_goals
    go_ret
    refine ⟨ret_bool (by simp_all [poverlaps]; try omega), ?_⟩
    first | exact Gr.refl _ | (repeat (first | exact Gr.refl _ | assumption | exact Gr.alloc _ _ | refine Gr.allocR ?_ _ | refine Gr.drewNR ?_ _ | refine Gr.drewR ?_ | refine Gr.trans ?_ (by assumption)))

set_option maxHeartbeats 400000 in
theorem pcompare_ref (x y u v : Int) (w : World) :
    Calls Try.prog 23 #[.agg #[.int .i64 x, .int .i64 y], .agg #[.int .i64 u, .int .i64 v]] w fun e w' => e = .returned (.int .i64 (pcompare (x, y) (u, v))) ∧ Gr w w' := by
  have hq := fun w => eqlPeriod w
  by_cases he : pairEq x y u v = true
  · go_enter Try.func23, Try.ntmps23
    go_wp2
    go_ret
    exact ⟨ret_int (by have := pairEq_yes he; simp [pcompare, this]), (Gr.alloc _ _).allocR _⟩
  · have he' : pairEq x y u v = false := by simpa using he
    clear he
    have hne := pairEq_no he'
    simp only [ne_eq, Prod.mk.injEq] at hne
    have HN := Lib.hid hne
    clear hne
    go_enter Try.func23, Try.ntmps23
    go_wp2
    all_goals
      go_ret
      refine ⟨ret_int ?_, (Gr.alloc _ _).allocR _⟩
      have hne := HN.out
      clear HN hq
      (try simp only [beq_iff_eq, beq_eq_false_iff_ne, ne_eq] at *)
      unfold pcompare
      simp only [Prod.mk.injEq]
      (repeat' split) <;> first | rfl | omega | (simp_all; done)

set_option maxHeartbeats 400000 in
theorem value_sum (a b : Int) (w : World) :
    Calls Try.prog 72 #[.int .i64 1, .int .i64 a, .int .i64 b] w fun e w' => e = .returned (.int .i64 (wrap64 (a + b))) ∧ Gr w w' := by
  go_enter Try.func72, Try.ntmps72
  go_wp2
  all_goals
    go_ret
    refine ⟨ret_int (by first | rfl | (simp; done) | (simp; omega) | omega), ?_⟩
    first | exact Gr.refl _ | (repeat (first | exact Gr.refl _ | assumption | exact Gr.alloc _ _ | refine Gr.allocR ?_ _ | refine Gr.drewNR ?_ _ | refine Gr.drewR ?_ | refine Gr.trans ?_ (by assumption)))

set_option maxHeartbeats 400000 in
theorem value_diff (a b : Int) (w : World) :
    Calls Try.prog 72 #[.int .i64 2, .int .i64 a, .int .i64 b] w fun e w' => e = .returned (.int .i64 (wrap64 (a - b))) ∧ Gr w w' := by
  go_enter Try.func72, Try.ntmps72
  go_wp2
  all_goals
    go_ret
    refine ⟨ret_int (by first | rfl | (simp; done) | (simp; omega) | omega), ?_⟩
    first | exact Gr.refl _ | (repeat (first | exact Gr.refl _ | assumption | exact Gr.alloc _ _ | refine Gr.allocR ?_ _ | refine Gr.drewNR ?_ _ | refine Gr.drewR ?_ | refine Gr.trans ?_ (by assumption)))

set_option maxHeartbeats 400000 in
theorem value_min (a b : Int) (w : World) :
    Calls Try.prog 72 #[.int .i64 3, .int .i64 a, .int .i64 b] w fun e w' => e = .returned (.int .i64 (min a b)) ∧ Gr w w' := by
  go_enter Try.func72, Try.ntmps72
  go_wp2
  all_goals
    go_ret
    refine ⟨ret_int (by first | rfl | (simp; done) | (simp; omega) | omega), ?_⟩
    first | exact Gr.refl _ | (repeat (first | exact Gr.refl _ | assumption | exact Gr.alloc _ _ | refine Gr.allocR ?_ _ | refine Gr.drewNR ?_ _ | refine Gr.drewR ?_ | refine Gr.trans ?_ (by assumption)))

set_option maxHeartbeats 400000 in
theorem value_max (a b : Int) (w : World) :
    Calls Try.prog 72 #[.int .i64 4, .int .i64 a, .int .i64 b] w fun e w' => e = .returned (.int .i64 (max a b)) ∧ Gr w w' := by
  go_enter Try.func72, Try.ntmps72
  go_wp2
  all_goals
    go_ret
    refine ⟨ret_int (by first | rfl | (simp; done) | (simp; omega) | omega), ?_⟩
    first | exact Gr.refl _ | (repeat (first | exact Gr.refl _ | assumption | exact Gr.alloc _ _ | refine Gr.allocR ?_ _ | refine Gr.drewNR ?_ _ | refine Gr.drewR ?_ | refine Gr.trans ?_ (by assumption)))

set_option maxHeartbeats 400000 in
theorem wanted_first (a b : Bool) (w : World) :
    Calls Try.prog 94 #[.int .i64 3, .bool a, .bool b] w fun e w' => e = .returned (.bool (a && !b)) ∧ Gr w w' := by
  go_enter Try.func94, Try.ntmps94
  go_wp2
  all_goals
    go_ret
    refine ⟨ret_bool (by simp_all), ?_⟩
    first | exact Gr.refl _ | (repeat (first | exact Gr.refl _ | assumption | exact Gr.alloc _ _ | refine Gr.allocR ?_ _ | refine Gr.drewNR ?_ _ | refine Gr.drewR ?_ | refine Gr.trans ?_ (by assumption)))

end Go.Proofs.Ytllenmkmompjpaa
