/- The law NonseqRuns returns true for every argument. No condition. -/
import Derived.Test.YtnbnpnmkgemdeaaGreatDoorLawNonseqRunsC
import Derived.Test.YtnbnpnmkgemdeaaGreatDoorRows
import Derived.Test.YtnbnpnmkgemdeaaGreatDoorTie
import Derived.Test.YtnbnpnmkgemdeaaGreatDoorCards
set_option linter.unusedSimpArgs false
set_option linter.unusedVariables false
namespace Go.Proofs.YtnbnpnmkgemdeaaGreatDoor.nonseqRuns
open Go.ChangeShapes Go.WideShapes Go.ChangeAt Go.RowKit
theorem wfT:(Rows.nonseqRunsRow).wfByText (OpenSpec.ofChange Rows.nonseqRunsSpec)=true:=by kernel_rfl
theorem mainT:Tryz.pinned.checked.prog.mainIs=some (true, ("58f3560f517e42c612def1b7ed448ef881ecbc625af66c1edb624d2ab35814da" : String).toList):=by kernel_rfl
theorem goesT:false=(Rows.nonseqRunsRow).goesBy Tryz.pinned.checked.prog:=by kernel_rfl
theorem fnT:∀ f fn,Tryz.pinned.checked.prog.funcNamed (Rows.nonseqRunsRow).func=some f→Tryz.pinned.checked.prog.funcs[f]?=some fn→false=Tryz.pinned.checked.prog.looks []∧∀ (j:Nat) t,fn.params[j]?=some t→Tryz.pinned.checked.prog.wantsStandIn t=false:=
  (fun f fn hf hfn=>by
   obtain rfl : f = 8 := aim ((show Tryz.prog.funcNamed "bitemporal/bitemporallaw28.NonseqRuns" = some 8 by kernel_rfl).symm.trans hf) |>.symm
   obtain rfl:fn=Tryz.f8:=(aim (Tryz.func8.symm.trans hfn)).symm;exact⟨by kernel_rfl,fun j t ht=>by
    rw[Tryz.params8]at ht;rcases j with _|_|j
    ·obtain rfl:t=66:=by simpa using ht.symm
     exact(show Tryz.prog.wantsStandIn 66=false by kernel_rfl)
    ·obtain rfl:t=67:=by simpa using ht.symm
     exact(show Tryz.prog.wantsStandIn 67=false by kernel_rfl)
    ·simp at ht⟩)
theorem proved:Rows.NonseqRunsCardSaid :=
 Claim7.holds_tied_plain_at .later [] [.data, .data, .data] true (true, "58f3560f517e42c612def1b7ed448ef881ecbc625af66c1edb624d2ab35814da") false
  over (fun _ h=>by cases h) wfT (fun _ h=>by cases h) nonseqRuns_row_tie rfl ⟨rfl,rfl⟩ mainT rfl
  fnT
  goesT
#print axioms proved
end Go.Proofs.YtnbnpnmkgemdeaaGreatDoor.nonseqRuns
