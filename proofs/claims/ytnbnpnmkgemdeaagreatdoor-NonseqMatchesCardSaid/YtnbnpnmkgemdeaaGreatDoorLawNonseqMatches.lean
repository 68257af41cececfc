/- The law NonseqMatches returns true for every argument. No condition. -/
import Derived.Test.YtnbnpnmkgemdeaaGreatDoorLawNonseqMatchesA
import Derived.Test.YtnbnpnmkgemdeaaGreatDoorLawNonseqMatchesB
import Derived.Test.YtnbnpnmkgemdeaaGreatDoorLawNonseqMatchesC
import Derived.Test.YtnbnpnmkgemdeaaGreatDoorKAA
import Derived.Test.YtnbnpnmkgemdeaaGreatDoorKBD
import Derived.Test.YtnbnpnmkgemdeaaGreatDoorRows
import Derived.Test.YtnbnpnmkgemdeaaGreatDoorTie
import Derived.Test.YtnbnpnmkgemdeaaGreatDoorCards
import Derived.ProofKit
import Derived.LaidMore
import Derived.OpenShut
import Derived.Stop.Joined
import Derived.SevenTiedAt
import Derived.Lib.LaidTab
import Derived.Lib.ItoaNum
set_option linter.unusedSimpArgs false
set_option linter.unusedVariables false
namespace Go.Proofs.YtnbnpnmkgemdeaaGreatDoor.nonseqMatches
open Go.ChangeShapes Go.WideShapes Go.ChangeAt Go.RowKit
theorem proved:Rows.NonseqMatchesCardSaid :=
 Claim7.holds_tied_plain_at .later [] [.data, .data, .data] true (true, "58f3560f517e42c612def1b7ed448ef881ecbc625af66c1edb624d2ab35814da") false
  over (fun _ h=>by cases h) (by kernel_rfl) (fun _ h=>by cases h) nonseqMatches_row_tie rfl ⟨rfl,rfl⟩ (by kernel_rfl) rfl
  (fun f fn hf hfn=>by
   obtain rfl : f = 9 := Zw ((show Tryz.prog.funcNamed "bitemporal/bitemporallaw28.NonseqMatches" = some 9 by kernel_rfl).symm.trans hf) |>.symm
   obtain rfl:fn=Tryz.f9:=(Zw (Tryz.func9.symm.trans hfn)).symm
   exact ⟨by kernel_rfl,fun j t ht=>by
    rw [Tryz.params9] at ht
    rcases j with _|_|_|j
    ·obtain rfl:t=73:=by simpa using ht.symm
     exact (show Tryz.prog.wantsStandIn 73=false by kernel_rfl)
    ·obtain rfl:t=73:=by simpa using ht.symm
     exact (show Tryz.prog.wantsStandIn 73=false by kernel_rfl)
    ·obtain rfl:t=3:=by simpa using ht.symm
     exact (show Tryz.prog.wantsStandIn 3=false by kernel_rfl)
    ·simp at ht⟩)
  (by kernel_rfl)
#print axioms proved
end Go.Proofs.YtnbnpnmkgemdeaaGreatDoor.nonseqMatches
