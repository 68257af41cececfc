/- The law SnapshotSets returns true for every argument. No condition. -/
import Derived.Test.YtfpbmfalamappaaGreatDoorLawSnapshotSetsA
import Derived.Test.YtfpbmfalamappaaGreatDoorKAA
import Derived.Test.YtfpbmfalamappaaGreatDoorKYB
import Derived.Test.YtfpbmfalamappaaGreatDoorRows
import Derived.Test.YtfpbmfalamappaaGreatDoorTie
import Derived.Test.YtfpbmfalamappaaGreatDoorCards
import Derived.ProofKit
import Derived.LaidMore
import Derived.OpenShut
import Derived.Stop.Joined
import Derived.SevenTiedAt
import Derived.Lib.LaidTab
import Derived.Lib.ItoaNum
set_option linter.unusedSimpArgs false
set_option linter.unusedVariables false
namespace Go.Proofs.YtfpbmfalamappaaGreatDoor.snapshotSets
open Go.ChangeShapes Go.WideShapes Go.ChangeAt Go.RowKit
theorem step (os : Os) (started : os.Started) (H : Type) (enc : TypeId × Value → H) :
    ReturnsInHanded Rows.snapshotSetsRow.assume Tryz.pinned.checked os 6 .any (Rows.snapshotSetsRow.pre enc Tryz.pinned.checked.prog Tryz.f6 (OpenSpec.ofChange Rows.snapshotSetsSpec)) (Rows.snapshotSetsSpec.post enc Tryz.pinned.checked.prog Tryz.f6 Rows.snapshotSetsRow.apart Rows.snapshotSetsRow.fresh Rows.snapshotSetsRow.handsOn Rows.snapshotSetsRow.again) := by
  rw [OpenClaim.pre_eq_preRow]
  exact lifted os started H enc
theorem closedF : joinedFacts Tryz.pinned.checked.prog 6 Tryz.f6 Rows.snapshotSetsSpec Rows.snapshotSetsRow = true := by kernel_rfl
theorem over:Rows.SnapshotSetsSaid :=
 OpenClaim.holds_of_wide (p := Tryz.pinned) (s := Rows.snapshotSetsSpec) (c := Rows.snapshotSetsRow) 6 Tryz.f6 rfl rfl rfl rfl rfl rfl rfl ⟨rfl,rfl,rfl,rfl,rfl⟩ rfl rfl rfl rfl rfl (by kernel_rfl) Tryz.func6 closedF
  (abD (by kernel_rfl)) (by unfold Func.isWrapper;first|(rw [if_pos (by decide +kernel)];kernel_rfl)|(rw [if_neg (by decide +kernel)];exact ⟨rfl,rfl⟩))
  (fun os started H enc _=>lifted os started H enc)
theorem proved:Rows.SnapshotSetsCardSaid :=
 Claim7.holds_tied_plain_at .later [] [.data, .data, .data] true (true, "5df2d613077d01c261e39854280875a1a3094570ea9023d7979ba7653d31e361") false
  over (fun _ h=>by cases h) (by kernel_rfl) (fun _ h=>by cases h) snapshotSets_row_tie rfl ⟨rfl,rfl⟩ (by kernel_rfl) rfl
  (fun f fn hf hfn=>by
   obtain rfl : f = 6 := abH ((show Tryz.prog.funcNamed "bitemporal/bitemporallaw21.SnapshotSets" = some 6 by kernel_rfl).symm.trans hf) |>.symm
   obtain rfl:fn=Tryz.f6:=(abH (Tryz.func6.symm.trans hfn)).symm
   exact ⟨by kernel_rfl,fun j t ht=>by
    rw [Tryz.params6] at ht
    rcases j with _|_|j
    ·obtain rfl:t=42:=by simpa using ht.symm
     exact (show Tryz.prog.wantsStandIn 42=false by kernel_rfl)
    ·obtain rfl:t=42:=by simpa using ht.symm
     exact (show Tryz.prog.wantsStandIn 42=false by kernel_rfl)
    ·simp at ht⟩)
  (by kernel_rfl)
#print axioms proved
end Go.Proofs.YtfpbmfalamappaaGreatDoor.snapshotSets
