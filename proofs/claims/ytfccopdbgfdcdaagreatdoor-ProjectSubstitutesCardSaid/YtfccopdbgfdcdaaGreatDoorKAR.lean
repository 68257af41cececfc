/- Parts of the proof, joined. No condition. -/
import Derived.Test.YtfccopdbgfdcdaaGreatDoorKAQ
import Derived.BigGuardPart
set_option linter.unusedSimpArgs false
set_option linter.unusedVariables false
namespace Go.Proofs.YtfccopdbgfdcdaaGreatDoor.St
open Go.RowKit
set_option maxHeartbeats 400000 in
theorem H6 (x y : Int) (w : World) :
    Calls Tryz.prog 32 #[.agg #[.int .i64 x, .int .i64 y]] w fun e w' => e = .returned (.bool (aH (x, y))) ∧ Gr w w' := by
  go_enter Tryz.func32, Tryz.ntmps32
  go_wp2
  all_goals
    go_ret
    refine ⟨IC (by simp [aH]; omega), ?_⟩
    first | exact Gr.refl _ | (repeat (first | exact Gr.refl _ | assumption | exact Gr.alloc _ _ | refine Gr.allocR ?_ _ | refine Gr.drewNR ?_ _ | refine Gr.drewR ?_ | refine Gr.trans ?_ (by assumption)))

set_option maxHeartbeats 400000 in
theorem Pf (x y : Int) (w : World) :
    Calls Tryz.prog 58 #[.agg #[.int .i64 x, .int .i64 y]] w fun e w' => e = .returned (.bool (aH (x, y))) ∧ Gr w w' := by
  go_enter Tryz.func58, Tryz.ntmps58
  go_wp2
  all_goals
    go_ret
    refine ⟨IC (by simp [aH]; omega), ?_⟩
    first | exact Gr.refl _ | (repeat (first | exact Gr.refl _ | assumption | exact Gr.alloc _ _ | refine Gr.allocR ?_ _ | refine Gr.drewNR ?_ _ | refine Gr.drewR ?_ | refine Gr.trans ?_ (by assumption)))

set_option maxHeartbeats 400000 in
theorem J4 (x y t : Int) (w : World) :
    Calls Tryz.prog 95 #[.agg #[.int .i64 x, .int .i64 y], .int .i64 t] w fun e w' => e = .returned (.bool (aV (x, y) t)) ∧ Gr w w' := by
  go_enter Tryz.func95, Tryz.ntmps95
  go_wp2_with (first | (go_at_call 32; refine (H6 _ _ _).mono ?_; rintro e w' ⟨rfl, hb⟩; have hz := hb.size; (try simp only [World.size_alloc] at hz); have z0 : w.heap.size < w'.heap.size := (by omega); obtain ⟨hc, hf⟩ := hb.cells))
  all_goals
    go_ret
    refine ⟨IC (by simp_all [aV]; try omega), ?_⟩
    first | exact Gr.refl _ | (repeat (first | exact Gr.refl _ | assumption | exact Gr.alloc _ _ | refine Gr.allocR ?_ _ | refine Gr.drewNR ?_ _ | refine Gr.drewR ?_ | refine Gr.trans ?_ (by assumption)))

set_option maxHeartbeats 400000 in
theorem Nv (x y u v : Int) (w : World) :
    Calls Tryz.prog 148 #[.agg #[.int .i64 x, .int .i64 y], .agg #[.int .i64 u, .int .i64 v]] w fun e w' => e = .returned (.int .i64 (fB (x, y) (u, v))) ∧ Gr w w' := by
  have hq := fun w => VJ w
  by_cases he : uZ x y u v = true
  · go_enter Tryz.func148, Tryz.ntmps148
    go_wp2
    go_ret
    exact ⟨yK (by have := QP he; simp [fB, this]), (Gr.alloc _ _).allocR _⟩
  · have he' : uZ x y u v = false := by simpa using he
    clear he
    have hne := UD he'
    simp only [ne_eq, Prod.mk.injEq] at hne
    have HN := Lib.hid hne
    clear hne
    go_enter Tryz.func148, Tryz.ntmps148
    go_wp2
    all_goals
      go_ret
      refine ⟨yK ?_, (Gr.alloc _ _).allocR _⟩
      have hne := HN.out
      clear HN hq
      (try simp only [beq_iff_eq, beq_eq_false_iff_ne, ne_eq] at *)
      unfold fB
      simp only [Prod.mk.injEq]
      (repeat' split) <;> first | rfl | omega | (simp_all; done)

end Go.Proofs.YtfccopdbgfdcdaaGreatDoor.St
