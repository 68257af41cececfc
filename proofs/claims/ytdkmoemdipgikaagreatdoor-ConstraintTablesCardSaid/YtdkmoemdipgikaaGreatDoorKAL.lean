/- Parts. No condition. -/
import Derived.Test.YtdkmoemdipgikaaGreatDoorKAK
import Derived.BigGuardPart
set_option linter.unusedSimpArgs false
set_option linter.unusedVariables false
namespace Go.Proofs.YtdkmoemdipgikaaGreatDoor.St
open Go.RowKit
set_option maxHeartbeats 400000 in
theorem Ib (x y:Int)(w:World) :
  Calls Tryz.prog 81 #[.agg #[.int .i64 x,.int .i64 y]] w fun e w'=>e = .returned (.bool (be (x,y)))∧Gr w w':=by
 go_enter Tryz.func81,Tryz.ntmps81
 go_wp2
 all_goals
  go_ret
  refine⟨AA (by simp[be];omega),?_⟩
  first|exact Gr.refl _|(repeat (first|exact Gr.refl _|assumption|exact Gr.alloc _ _|refine Gr.allocR ?_ _|refine Gr.drewNR ?_ _|refine Gr.drewR ?_|refine Gr.trans ?_ (by assumption)))
