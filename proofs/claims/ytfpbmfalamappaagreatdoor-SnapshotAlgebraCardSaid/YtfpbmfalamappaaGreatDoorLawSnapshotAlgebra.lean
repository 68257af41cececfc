/- The law SnapshotAlgebra returns true for every argument. No condition. -/
import Derived.Test.YtfpbmfalamappaaGreatDoorLawSnapshotAlgebraA
import Derived.Test.YtfpbmfalamappaaGreatDoorKAA
import Derived.Test.YtfpbmfalamappaaGreatDoorKZA
import Derived.Test.YtfpbmfalamappaaGreatDoorRows
import Derived.Test.YtfpbmfalamappaaGreatDoorTie
import Derived.Test.YtfpbmfalamappaaGreatDoorCards
import Derived.ProofKit
import Derived.LaidMore
import Derived.OpenShut
import Derived.Stop.Joined
import Derived.SevenTiedAt
import Derived.Lib.LaidTab
import Derived.Lib.ItoaNum
set_option linter.unusedSimpArgs false
set_option linter.unusedVariables false
namespace Go.Proofs.YtfpbmfalamappaaGreatDoor.snapshotAlgebra
open Go.ChangeShapes Go.WideShapes Go.ChangeAt Go.RowKit
theorem step (os : Os) (started : os.Started) (H : Type) (enc : TypeId × Value → H) :
    ReturnsInHanded Rows.snapshotAlgebraRow.assume Tryz.pinned.checked os 8 .any (Rows.snapshotAlgebraRow.pre enc Tryz.pinned.checked.prog Tryz.f8 (OpenSpec.ofChange Rows.snapshotAlgebraSpec)) (Rows.snapshotAlgebraSpec.post enc Tryz.pinned.checked.prog Tryz.f8 Rows.snapshotAlgebraRow.apart Rows.snapshotAlgebraRow.fresh Rows.snapshotAlgebraRow.handsOn Rows.snapshotAlgebraRow.again) := by
  rw [OpenClaim.pre_eq_preRow]
  exact lifted os started H enc
theorem closedF : joinedFacts Tryz.pinned.checked.prog 8 Tryz.f8 Rows.snapshotAlgebraSpec Rows.snapshotAlgebraRow = true := by kernel_rfl
theorem over:Rows.SnapshotAlgebraSaid :=
 OpenClaim.holds_of_wide (p := Tryz.pinned) (s := Rows.snapshotAlgebraSpec) (c := Rows.snapshotAlgebraRow) 8 Tryz.f8 rfl rfl rfl rfl rfl rfl rfl ⟨rfl,rfl,rfl,rfl,rfl⟩ rfl rfl rfl rfl rfl (by kernel_rfl) Tryz.func8 closedF
  (abD (by kernel_rfl)) (by unfold Func.isWrapper;first|(rw [if_pos (by decide +kernel)];kernel_rfl)|(rw [if_neg (by decide +kernel)];exact ⟨rfl,rfl⟩))
  (fun os started H enc _=>lifted os started H enc)
theorem proved:Rows.SnapshotAlgebraCardSaid :=
 Claim7.holds_tied_plain_at .later [] [.data, .data, .data] true (true, "5df2d613077d01c261e39854280875a1a3094570ea9023d7979ba7653d31e361") false
  over (fun _ h=>by cases h) (by kernel_rfl) (fun _ h=>by cases h) snapshotAlgebra_row_tie rfl ⟨rfl,rfl⟩ (by kernel_rfl) rfl
  (fun f fn hf hfn=>by
   obtain rfl : f = 8 := abH ((show Tryz.prog.funcNamed "bitemporal/bitemporallaw21.SnapshotAlgebra" = some 8 by kernel_rfl).symm.trans hf) |>.symm
   obtain rfl:fn=Tryz.f8:=(abH (Tryz.func8.symm.trans hfn)).symm
   exact ⟨by kernel_rfl,fun j t ht=>by
    rw [Tryz.params8] at ht
    rcases j with _|_|_|j
    ·obtain rfl:t=42:=by simpa using ht.symm
     exact (show Tryz.prog.wantsStandIn 42=false by kernel_rfl)
    ·obtain rfl:t=42:=by simpa using ht.symm
     exact (show Tryz.prog.wantsStandIn 42=false by kernel_rfl)
    ·obtain rfl:t=28:=by simpa using ht.symm
     exact (show Tryz.prog.wantsStandIn 28=false by kernel_rfl)
    ·simp at ht⟩)
  (by kernel_rfl)
#print axioms proved
end Go.Proofs.YtfpbmfalamappaaGreatDoor.snapshotAlgebra
