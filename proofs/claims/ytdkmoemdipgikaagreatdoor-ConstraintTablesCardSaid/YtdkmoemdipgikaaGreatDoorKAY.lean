/- Parts. No condition. -/
import Derived.Test.YtdkmoemdipgikaaGreatDoorKAV
import Derived.Test.YtdkmoemdipgikaaGreatDoorKAW
import Derived.Test.YtdkmoemdipgikaaGreatDoorKAX
set_option linter.unusedSimpArgs false
set_option linter.unusedVariables false
namespace Go.Proofs.YtdkmoemdipgikaaGreatDoor.St
open Go.RowKit
theorem dQ.total (p q:Int×Int):dQ p q∨dQ q p:=by unfold dQ;omega
theorem dQ.trans {p q r:Int×Int}(h:dQ p q)(g:dQ q r):dQ p r:=by unfold dQ at *;omega
theorem Lv.start (w:World):Lv w (((w.alloc (.cells #[.slice none 0 0] 91)).alloc (.cells #[.slice none 0 0] 214)).alloc (.cells #[.int .i64 0] 3)) w.heap.size 0 (.slice none 0 0) [] (.slice none 0 0) []:=by
 refine⟨tK _ _ _ m5,?_,Own.nil _ _,?_,Own.nil _ _,?_,m5⟩
 ·rw[Below.heap_alloc _ _ _ m5];exact tK _ _ _ m5
 ·rw[Below.heap_alloc _ _ _ m8,Below.heap_alloc _ _ _ m5];exact tK _ _ _ rfl
 ·exact((wH _ _).alloc m5 _).alloc m8 _
