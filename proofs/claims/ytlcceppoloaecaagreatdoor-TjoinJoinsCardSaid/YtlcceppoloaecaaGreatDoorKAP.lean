/- Parts of the proof, joined. No condition. -/
import Derived.Test.YtlcceppoloaecaaGreatDoorKAO
import Derived.BigGuardPart
set_option linter.unusedSimpArgs false
set_option linter.unusedVariables false
namespace Go.Proofs.YtlcceppoloaecaaGreatDoor.St
open Go.RowKit
set_option maxHeartbeats 400000 in
theorem Ow (x y : Int) (w : World) :
    Calls Tryz.prog 33 #[.agg #[.int .i64 x, .int .i64 y]] w fun e w' => e = .returned (.bool (a_ (x, y))) ∧ Gr w w' := by
  go_enter Tryz.func33, Tryz.ntmps33
  go_wp2
  all_goals
    go_ret
    refine ⟨Mi (by simp [a_]; omega), ?_⟩
    first | exact Gr.refl _ | (repeat (first | exact Gr.refl _ | assumption | exact Gr.alloc _ _ | refine Gr.allocR ?_ _ | refine Gr.drewNR ?_ _ | refine Gr.drewR ?_ | refine Gr.trans ?_ (by assumption)))

set_option maxHeartbeats 400000 in
theorem Xy (x y : Int) (w : World) :
    Calls Tryz.prog 38 #[.agg #[.int .i64 x, .int .i64 y]] w fun e w' => e = .returned (.bool (a_ (x, y))) ∧ Gr w w' := by
  go_enter Tryz.func38, Tryz.ntmps38
  go_wp2
  all_goals
    go_ret
    refine ⟨Mi (by simp [a_]; omega), ?_⟩
    first | exact Gr.refl _ | (repeat (first | exact Gr.refl _ | assumption | exact Gr.alloc _ _ | refine Gr.allocR ?_ _ | refine Gr.drewNR ?_ _ | refine Gr.drewR ?_ | refine Gr.trans ?_ (by assumption)))

set_option maxHeartbeats 400000 in
theorem QE (x y t : Int) (w : World) :
    Calls Tryz.prog 103 #[.agg #[.int .i64 x, .int .i64 y], .int .i64 t] w fun e w' => e = .returned (.bool (bC (x, y) t)) ∧ Gr w w' := by
  go_enter Tryz.func103, Tryz.ntmps103
  go_wp2_with (first | (go_at_call 33; refine (Ow _ _ _).mono ?_; rintro e w' ⟨rfl, hb⟩; have hz := hb.size; (try simp only [World.size_alloc] at hz); have z0 : w.heap.size < w'.heap.size := (by omega); obtain ⟨hc, hf⟩ := hb.cells))
  all_goals
    go_ret
    refine ⟨Mi (by simp_all [bC]; try omega), ?_⟩
    first | exact Gr.refl _ | (repeat (first | exact Gr.refl _ | assumption | exact Gr.alloc _ _ | refine Gr.allocR ?_ _ | refine Gr.drewNR ?_ _ | refine Gr.drewR ?_ | refine Gr.trans ?_ (by assumption)))

set_option maxHeartbeats 400000 in
theorem UH (x y u v : Int) (w : World) :
    Calls Tryz.prog 211 #[.agg #[.int .i64 x, .int .i64 y], .agg #[.int .i64 u, .int .i64 v]] w fun e w' => e = .returned (.int .i64 (g_ (x, y) (u, v))) ∧ Gr w w' := by
  have hq := fun w => aeB w
  by_cases he : zJ x y u v = true
  · go_enter Tryz.func211, Tryz.ntmps211
    go_wp2
    go_ret
    exact ⟨CF (by have := aaP he; simp [g_, this]), (Gr.alloc _ _).allocR _⟩
  · have he' : zJ x y u v = false := by simpa using he
    clear he
    have hne := adR he'
    simp only [ne_eq, Prod.mk.injEq] at hne
    have HN := Lib.hid hne
    clear hne
    go_enter Tryz.func211, Tryz.ntmps211
    go_wp2
    all_goals
      go_ret
      refine ⟨CF ?_, (Gr.alloc _ _).allocR _⟩
      have hne := HN.out
      clear HN hq
      (try simp only [beq_iff_eq, beq_eq_false_iff_ne, ne_eq] at *)
      unfold g_
      simp only [Prod.mk.injEq]
      (repeat' split) <;> first | rfl | omega | (simp_all; done)

end Go.Proofs.YtlcceppoloaecaaGreatDoor.St
