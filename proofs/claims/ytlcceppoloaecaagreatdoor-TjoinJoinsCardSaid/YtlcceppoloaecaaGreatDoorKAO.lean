/- Parts. No condition. -/
import Derived.Test.YtlcceppoloaecaaGreatDoorKAN
import Derived.BigGuardPart
set_option linter.unusedSimpArgs false
set_option linter.unusedVariables false
namespace Go.Proofs.YtlcceppoloaecaaGreatDoor.St
open Go.RowKit
set_option maxHeartbeats 400000 in
theorem F5 (x y:Int)(w:World) :
  Calls Tryz.prog 38 #[.agg #[.int .i64 x,.int .i64 y]] w λe w'=>e = .returned (.bool (aK (x,y)))∧Gr w w':=by
 go_enter Tryz.func38,Tryz.ntmps38
 go_wp2
 all_goals
  go_ret
  refine⟨BX (by simp[aK];omega),?_⟩
  first|exact Gr.refl _|(repeat (first|exact Gr.refl _|assumption|exact Gr.alloc _ _|refine Gr.allocR ?_ _|refine Gr.drewNR ?_ _|refine Gr.drewR ?_|refine Gr.trans ?_ (by assumption)))
