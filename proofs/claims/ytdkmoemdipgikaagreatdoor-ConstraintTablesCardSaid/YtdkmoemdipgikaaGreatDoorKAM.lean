/- Parts. No condition. -/
import Derived.Test.YtdkmoemdipgikaaGreatDoorKAL
import Derived.BigRegion
set_option linter.unusedSimpArgs false
set_option linter.unusedVariables false
namespace Go.Proofs.YtdkmoemdipgikaaGreatDoor.St
open Go.RowKit
set_option maxHeartbeats 1600000 in
theorem H6 (ak ai bk bi:Int)(as' bs:ByteArray)(w:World) :
  Calls Tryz.prog 159 #[.agg #[.int .i64 ak,.int .i64 ai,.string as'],.agg #[.int .i64 bk,.int .i64 bi,.string bs]] w fun e w'=>e = .returned (.tuple #[.agg #[.int .i64 ai,.int .i64 bi],.bool (decide (ak=1)&&decide (bk=1))])/\Gr w w':=by
 by_cases ha:ak=1
 ·have hd:((ak:Int)==1)=true:=by simp[ha]
  have ha':decide (ak=1)=true:=amA ha
  go_enter Tryz.func159,Tryz.ntmps159
  go_wp2
  go_big_region
  go_wp2;refine bodyPost_ret (v := .tuple #[.agg #[.int .i64 ai,.int .i64 bi],.bool (decide (ak=1)&&decide (bk=1))]) (by simp[results,Tryz.results159,go_sem,ha];try rfl) rfl ⟨rfl,?_⟩
  ·repeat (first|exact Gr.refl _|assumption|exact Gr.alloc _ _|refine Gr.allocR ?_ _|refine Gr.drewNR ?_ _|refine Gr.drewR ?_)
 ·have hd:((ak:Int)==1)=false:=by simp[ha]
  have ha':decide (ak=1)=false:=amz ha
  go_enter Tryz.func159,Tryz.ntmps159
  go_wp2
  go_big_region
  go_wp2;refine bodyPost_ret (v := .tuple #[.agg #[.int .i64 ai,.int .i64 bi],.bool (decide (ak=1)&&decide (bk=1))]) (by simp[results,Tryz.results159,go_sem,ha];try rfl) rfl ⟨rfl,?_⟩
  ·repeat (first|exact Gr.refl _|assumption|exact Gr.alloc _ _|refine Gr.allocR ?_ _|refine Gr.drewNR ?_ _|refine Gr.drewR ?_)
