/- The law TjoinJoins returns true for every argument. No condition. -/
import Derived.Test.YtlcceppoloaecaaGreatDoorLawTjoinJoinsA
import Derived.Test.YtlcceppoloaecaaGreatDoorLawTjoinJoinsB
import Derived.Test.YtlcceppoloaecaaGreatDoorLawTjoinJoinsC
import Derived.Test.YtlcceppoloaecaaGreatDoorKZA
import Derived.Test.YtlcceppoloaecaaGreatDoorRows
import Derived.Test.YtlcceppoloaecaaGreatDoorTie
import Derived.Test.YtlcceppoloaecaaGreatDoorCards
import Derived.LaidMore
import Derived.Stop.Joined
import Derived.SevenTiedAt
import Derived.Lib.LaidTab
import Derived.Lib.ItoaNum
set_option linter.unusedSimpArgs false
set_option linter.unusedVariables false
namespace Go.Proofs.YtlcceppoloaecaaGreatDoor.tjoinJoins
open Go.ChangeShapes Go.WideShapes Go.ChangeAt Go.RowKit
theorem wfT:(Rows.tjoinJoinsRow).wfByText (OpenSpec.ofChange Rows.tjoinJoinsSpec)=true:=by kernel_rfl
theorem mainT:Tryz.pinned.checked.prog.mainIs=some (true, ("7f5b8fa707f7d2afc8d56363dc44e6a58cba0e1e9264239b5f41b414bcf8add7" : String).toList):=by kernel_rfl
theorem goesT:false=(Rows.tjoinJoinsRow).goesBy Tryz.pinned.checked.prog:=by kernel_rfl
theorem fnT:∀ f fn,Tryz.pinned.checked.prog.funcNamed (Rows.tjoinJoinsRow).func=some f→Tryz.pinned.checked.prog.funcs[f]?=some fn→false=Tryz.pinned.checked.prog.looks []∧∀ (j:Nat) t,fn.params[j]?=some t→Tryz.pinned.checked.prog.wantsStandIn t=false:=
  (fun f fn hf hfn=>by
   obtain rfl : f = 4 := aqX ((show Tryz.prog.funcNamed "bitemporal/bitemporallaw24.TjoinJoins" = some 4 by kernel_rfl).symm.trans hf) |>.symm
   obtain rfl:fn=Tryz.f4:=(aqX (Tryz.func4.symm.trans hfn)).symm;exact⟨by kernel_rfl,fun j t ht=>by
    rw[Tryz.params4]at ht;rcases j with _|_|_|j
    ·obtain rfl:t=31:=by simpa using ht.symm
     exact(show Tryz.prog.wantsStandIn 31=false by kernel_rfl)
    ·obtain rfl:t=31:=by simpa using ht.symm
     exact(show Tryz.prog.wantsStandIn 31=false by kernel_rfl)
    ·obtain rfl:t=36:=by simpa using ht.symm
     exact(show Tryz.prog.wantsStandIn 36=false by kernel_rfl)
    ·simp at ht⟩)
theorem proved:Rows.TjoinJoinsCardSaid :=
 Claim7.holds_tied_plain_at .later [] [.data, .data, .data] true (true, "7f5b8fa707f7d2afc8d56363dc44e6a58cba0e1e9264239b5f41b414bcf8add7") false
  over (fun _ h=>by cases h) wfT (fun _ h=>by cases h) tjoinJoins_row_tie rfl ⟨rfl,rfl⟩ mainT rfl
  fnT
  goesT
#print axioms proved
end Go.Proofs.YtlcceppoloaecaaGreatDoor.tjoinJoins
