/- The law ConstraintTables returns true for every argument. No condition. -/
import Derived.Test.YtdkmoemdipgikaaGreatDoorLawConstraintTablesA
import Derived.Test.YtdkmoemdipgikaaGreatDoorLawConstraintTablesB
import Derived.Test.YtdkmoemdipgikaaGreatDoorLawConstraintTablesC
import Derived.Test.YtdkmoemdipgikaaGreatDoorKBR
import Derived.Test.YtdkmoemdipgikaaGreatDoorRows
import Derived.Test.YtdkmoemdipgikaaGreatDoorTie
import Derived.Test.YtdkmoemdipgikaaGreatDoorCards
import Derived.LaidMore
import Derived.Stop.Joined
import Derived.SevenTiedAt
import Derived.Lib.LaidTab
import Derived.Lib.ItoaNum
set_option linter.unusedSimpArgs false
set_option linter.unusedVariables false
namespace Go.Proofs.YtdkmoemdipgikaaGreatDoor.constraintTables
open Go.ChangeShapes Go.WideShapes Go.ChangeAt Go.RowKit
theorem wfT:(Rows.constraintTablesRow).wfByText (OpenSpec.ofChange Rows.constraintTablesSpec)=true:=by kernel_rfl
theorem mainT:Tryz.pinned.checked.prog.mainIs=some (true, ("1c938770306346f59d247065ff326b7dc766be7b279804cdace8b0abae4b8985" : String).toList):=by kernel_rfl
theorem goesT:false=(Rows.constraintTablesRow).goesBy Tryz.pinned.checked.prog:=by kernel_rfl
theorem fnT:∀ f fn,Tryz.pinned.checked.prog.funcNamed (Rows.constraintTablesRow).func=some f→Tryz.pinned.checked.prog.funcs[f]?=some fn→false=Tryz.pinned.checked.prog.looks []∧∀ (j:Nat) t,fn.params[j]?=some t→Tryz.pinned.checked.prog.wantsStandIn t=false:=
  (fun f fn hf hfn=>by
   obtain rfl : f = 3 := am3 ((show Tryz.prog.funcNamed "bitemporal/bitemporallaw45.ConstraintTables" = some 3 by kernel_rfl).symm.trans hf) |>.symm
   obtain rfl:fn=Tryz.f3:=(am3 (Tryz.func3.symm.trans hfn)).symm;exact⟨by kernel_rfl,fun j t ht=>by
    rw[Tryz.params3]at ht;rcases j with _|_|j
    ·obtain rfl:t=27:=by simpa using ht.symm
     exact(show Tryz.prog.wantsStandIn 27=false by kernel_rfl)
    ·obtain rfl:t=28:=by simpa using ht.symm
     exact(show Tryz.prog.wantsStandIn 28=false by kernel_rfl)
    ·simp at ht⟩)
theorem proved:Rows.ConstraintTablesCardSaid :=
 Claim7.holds_tied_plain_at .later [] [.data, .data, .data] true (true, "1c938770306346f59d247065ff326b7dc766be7b279804cdace8b0abae4b8985") false
  over (fun _ h=>by cases h) wfT (fun _ h=>by cases h) constraintTables_row_tie rfl ⟨rfl,rfl⟩ mainT rfl
  fnT
  goesT
#print axioms proved
end Go.Proofs.YtdkmoemdipgikaaGreatDoor.constraintTables
