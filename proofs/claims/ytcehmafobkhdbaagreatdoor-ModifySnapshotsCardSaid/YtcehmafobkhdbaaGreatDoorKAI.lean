/- Parts of the proof, joined. No condition. -/
import Derived.Test.YtcehmafobkhdbaaGreatDoorKAH
import Derived.BigGuardPart
set_option linter.unusedSimpArgs false
set_option linter.unusedVariables false
namespace Go.Proofs.YtcehmafobkhdbaaGreatDoor.St
open Go.RowKit
set_option maxHeartbeats 400000 in
theorem KT (x y : Int) (w : World) :
    Calls Tryz.prog 42 #[.agg #[.int .i64 x, .int .i64 y]] w fun e w' => e = .returned (.bool (aO (x, y))) ∧ Gr w w' := by
  go_enter Tryz.func42, Tryz.ntmps42
  go_wp2
  all_goals
    go_ret
    refine ⟨Js (by simp [aO]; omega), ?_⟩
    first | exact Gr.refl _ | (repeat (first | exact Gr.refl _ | assumption | exact Gr.alloc _ _ | refine Gr.allocR ?_ _ | refine Gr.drewNR ?_ _ | refine Gr.drewR ?_ | refine Gr.trans ?_ (by assumption)))

set_option maxHeartbeats 400000 in
theorem Qn (x y : Int) (w : World) :
    Calls Tryz.prog 74 #[.agg #[.int .i64 x, .int .i64 y]] w fun e w' => e = .returned (.bool (aO (x, y))) ∧ Gr w w' := by
  go_enter Tryz.func74, Tryz.ntmps74
  go_wp2
  all_goals
    go_ret
    refine ⟨Js (by simp [aO]; omega), ?_⟩
    first | exact Gr.refl _ | (repeat (first | exact Gr.refl _ | assumption | exact Gr.alloc _ _ | refine Gr.allocR ?_ _ | refine Gr.drewNR ?_ _ | refine Gr.drewR ?_ | refine Gr.trans ?_ (by assumption)))

set_option maxHeartbeats 400000 in
theorem LK (x y t : Int) (w : World) :
    Calls Tryz.prog 21 #[.agg #[.int .i64 x, .int .i64 y], .int .i64 t] w fun e w' => e = .returned (.bool (a_ (x, y) t)) ∧ Gr w w' := by
  go_enter Tryz.func21, Tryz.ntmps21
  go_wp2_with (first | (go_at_call 42; refine (KT _ _ _).mono ?_; rintro e w' ⟨rfl, hb⟩; have hz := hb.size; (try simp only [World.size_alloc] at hz); have z0 : w.heap.size < w'.heap.size := (by omega); obtain ⟨hc, hf⟩ := hb.cells))
  all_goals
    go_ret
    refine ⟨Js (by simp_all [a_]; try omega), ?_⟩
    first | exact Gr.refl _ | (repeat (first | exact Gr.refl _ | assumption | exact Gr.alloc _ _ | refine Gr.allocR ?_ _ | refine Gr.drewNR ?_ _ | refine Gr.drewR ?_ | refine Gr.trans ?_ (by assumption)))

set_option maxHeartbeats 400000 in
theorem Pw (x y u v : Int) (w : World) :
    Calls Tryz.prog 150 #[.agg #[.int .i64 x, .int .i64 y], .agg #[.int .i64 u, .int .i64 v]] w fun e w' => e = .returned (.int .i64 (gI (x, y) (u, v))) ∧ Gr w w' := by
  have hq := fun w => WH w
  by_cases he : vY x y u v = true
  · go_enter Tryz.func150, Tryz.ntmps150
    go_wp2
    go_ret
    exact ⟨zF (by have := Ug he; simp [gI, this]), (Gr.alloc _ _).allocR _⟩
  · have he' : vY x y u v = false := by simpa using he
    clear he
    have hne := WG he'
    simp only [ne_eq, Prod.mk.injEq] at hne
    have HN := Lib.hid hne
    clear hne
    go_enter Tryz.func150, Tryz.ntmps150
    go_wp2
    all_goals
      go_ret
      refine ⟨zF ?_, (Gr.alloc _ _).allocR _⟩
      have hne := HN.out
      clear HN hq
      (try simp only [beq_iff_eq, beq_eq_false_iff_ne, ne_eq] at *)
      unfold gI
      simp only [Prod.mk.injEq]
      (repeat' split) <;> first | rfl | omega | (simp_all; done)

end Go.Proofs.YtcehmafobkhdbaaGreatDoor.St
