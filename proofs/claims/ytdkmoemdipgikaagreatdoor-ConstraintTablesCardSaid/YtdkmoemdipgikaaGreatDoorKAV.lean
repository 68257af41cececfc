/- Parts. No condition. -/
import Derived.Test.YtdkmoemdipgikaaGreatDoorKAO
import Derived.Test.YtdkmoemdipgikaaGreatDoorKAU
set_option linter.unusedSimpArgs false
set_option linter.unusedVariables false
namespace Go.Proofs.YtdkmoemdipgikaaGreatDoor.St
open Go.RowKit Go.Shelf Go.Lib Go.Sort
set_option maxHeartbeats 400000 in
theorem cmp_eq (a b:Int)(w:World):Calls Tryz.prog 221 #[.int .i64 a,.int .i64 b] w fun e w'=>e = .returned (.int .i64 (BI a b))∧w=w':=by
 go_enter Tryz.func221,Tryz.ntmps221
 go_wp2
 all_goals
  go_ret
  exact⟨qO (by unfold BI;(repeat' split)<;>first|rfl|omega),rfl⟩
def dQ (x y:Int×Int):Prop:=x.1<y.1∨(x.1=y.1∧x.2≤y.2)
