/- The law NonseqMatches returns true for every argument. No condition. -/
import Derived.Test.YtnbnpnmkgemdeaaGreatDoorLawNonseqMatchesA
import Derived.Test.YtnbnpnmkgemdeaaGreatDoorLawNonseqMatchesB
import Derived.Test.YtnbnpnmkgemdeaaGreatDoorKAA
import Derived.Test.YtnbnpnmkgemdeaaGreatDoorKBD
import Derived.Test.YtnbnpnmkgemdeaaGreatDoorRows
import Derived.Test.YtnbnpnmkgemdeaaGreatDoorTie
import Derived.Test.YtnbnpnmkgemdeaaGreatDoorCards
import Derived.ProofKit
import Derived.LaidMore
import Derived.OpenShut
import Derived.Stop.Joined
import Derived.SevenTiedAt
import Derived.Lib.LaidTab
import Derived.Lib.ItoaNum
set_option linter.unusedSimpArgs false
set_option linter.unusedVariables false
namespace Go.Proofs.YtnbnpnmkgemdeaaGreatDoor.nonseqMatches
open Go.ChangeShapes Go.WideShapes Go.ChangeAt Go.RowKit
theorem over:Rows.NonseqMatchesSaid :=
 OpenClaim.holds_of_wide (p := Tryz.pinned) (s := Rows.nonseqMatchesSpec) (c := Rows.nonseqMatchesRow) 9 Tryz.f9 rfl rfl rfl rfl rfl rfl rfl ⟨rfl,rfl,rfl,rfl,rfl⟩ rfl rfl rfl rfl rfl (by kernel_rfl) Tryz.func9 closedF
  (Zr (by kernel_rfl)) (by unfold Func.isWrapper;first|(rw [if_pos (by decide +kernel)];kernel_rfl)|(rw [if_neg (by decide +kernel)];exact ⟨rfl,rfl⟩))
  (fun os started H enc _=>step os started H enc)
end Go.Proofs.YtnbnpnmkgemdeaaGreatDoor.nonseqMatches
