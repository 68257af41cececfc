/- The law NonseqRuns returns true for every argument. No condition. -/
import Derived.Test.YtnbnpnmkgemdeaaGreatDoorLawNonseqRunsB
set_option linter.unusedSimpArgs false
set_option linter.unusedVariables false
namespace Go.Proofs.YtnbnpnmkgemdeaaGreatDoor.nonseqRuns
open Go.ChangeShapes Go.WideShapes Go.ChangeAt Go.RowKit
theorem over:Rows.NonseqRunsSaid :=
 OpenClaim.holds_of_wide (p := Tryz.pinned) (s := Rows.nonseqRunsSpec) (c := Rows.nonseqRunsRow) 8 Tryz.f8 rfl rfl rfl rfl rfl rfl rfl ⟨rfl,rfl,rfl,rfl,rfl⟩ rfl rfl rfl rfl rfl (by kernel_rfl) Tryz.func8 closedF
  (aii (by kernel_rfl)) (by unfold Func.isWrapper;first|(rw[if_pos (by decide +kernel)];kernel_rfl)|(rw[if_neg (by decide +kernel)];exact⟨rfl,rfl⟩))
  (fun os started H enc _=>step os started H enc)
end Go.Proofs.YtnbnpnmkgemdeaaGreatDoor.nonseqRuns
