/- Parts of the proof, joined. No condition. -/
import Derived.Test.YtfccopdbgfdcdaaGreatDoorKAQ
import Derived.BigGuardPart
set_option linter.unusedSimpArgs false
set_option linter.unusedVariables false
namespace Go.Proofs.YtfccopdbgfdcdaaGreatDoor.St
open Go.RowKit
set_option maxHeartbeats 400000 in
theorem pvalid_ref (x y : Int) (w : World) :
    Calls Tryz.prog 32 #[.agg #[.int .i64 x, .int .i64 y]] w fun e w' => e = .returned (.bool (pvalid (x, y))) ∧ Gr w w' := by
  go_enter Tryz.func32, Tryz.ntmps32
  go_wp2
  all_goals
    go_ret
    refine ⟨ret_bool (by simp [pvalid]; omega), ?_⟩
    first | exact Gr.refl _ | (repeat (first | exact Gr.refl _ | assumption | exact Gr.alloc _ _ | refine Gr.allocR ?_ _ | refine Gr.drewNR ?_ _ | refine Gr.drewR ?_ | refine Gr.trans ?_ (by assumption)))

set_option maxHeartbeats 400000 in
theorem pvalid_prog (x y : Int) (w : World) :
    Calls Tryz.prog 58 #[.agg #[.int .i64 x, .int .i64 y]] w fun e w' => e = .returned (.bool (pvalid (x, y))) ∧ Gr w w' := by
  go_enter Tryz.func58, Tryz.ntmps58
  go_wp2
  all_goals
    go_ret
    refine ⟨ret_bool (by simp [pvalid]; omega), ?_⟩
    first | exact Gr.refl _ | (repeat (first | exact Gr.refl _ | assumption | exact Gr.alloc _ _ | refine Gr.allocR ?_ _ | refine Gr.drewNR ?_ _ | refine Gr.drewR ?_ | refine Gr.trans ?_ (by assumption)))

set_option maxHeartbeats 400000 in
theorem pcontains_ref (x y t : Int) (w : World) :
    Calls Tryz.prog 95 #[.agg #[.int .i64 x, .int .i64 y], .int .i64 t] w fun e w' => e = .returned (.bool (pcontains (x, y) t)) ∧ Gr w w' := by
  go_enter Tryz.func95, Tryz.ntmps95
  go_wp2_with (first | (go_at_call 32; refine (pvalid_ref _ _ _).mono ?_; rintro e w' ⟨rfl, hb⟩; have hz := hb.size; (try simp only [World.size_alloc] at hz); have z0 : w.heap.size < w'.heap.size := (by omega); obtain ⟨hc, hf⟩ := hb.cells))
  all_goals
    go_ret
    refine ⟨ret_bool (by simp_all [pcontains]; try omega), ?_⟩
    first | exact Gr.refl _ | (repeat (first | exact Gr.refl _ | assumption | exact Gr.alloc _ _ | refine Gr.allocR ?_ _ | refine Gr.drewNR ?_ _ | refine Gr.drewR ?_ | refine Gr.trans ?_ (by assumption)))

set_option maxHeartbeats 400000 in
theorem pcompare_ref (x y u v : Int) (w : World) :
    Calls Tryz.prog 148 #[.agg #[.int .i64 x, .int .i64 y], .agg #[.int .i64 u, .int .i64 v]] w fun e w' => e = .returned (.int .i64 (pcompare (x, y) (u, v))) ∧ Gr w w' := by
  have hq := fun w => eqlPeriod w
  by_cases he : pairEq x y u v = true
  · go_enter Tryz.func148, Tryz.ntmps148
    go_wp2
    go_ret
    exact ⟨ret_int (by have := pairEq_yes he; simp [pcompare, this]), (Gr.alloc _ _).allocR _⟩
  · have he' : pairEq x y u v = false := by simpa using he
    clear he
    have hne := pairEq_no he'
    simp only [ne_eq, Prod.mk.injEq] at hne
    have HN := Lib.hid hne
    clear hne
    go_enter Tryz.func148, Tryz.ntmps148
    go_wp2
    all_goals
      go_ret
      refine ⟨ret_int ?_, (Gr.alloc _ _).allocR _⟩
      have hne := HN.out
      clear HN hq
      (try simp only [beq_iff_eq, beq_eq_false_iff_ne, ne_eq] at *)
      unfold pcompare
      simp only [Prod.mk.injEq]
      (repeat' split) <;> first | rfl | omega | (simp_all; done)

end Go.Proofs.YtfccopdbgfdcdaaGreatDoor.St
