/- The law SnapshotCounts returns true for every argument. No condition. -/
import Derived.Test.YtfpbmfalamappaaGreatDoorLawSnapshotCountsA
import Derived.Test.YtfpbmfalamappaaGreatDoorKAA
import Derived.Test.YtfpbmfalamappaaGreatDoorKVD
import Derived.Test.YtfpbmfalamappaaGreatDoorRows
import Derived.Test.YtfpbmfalamappaaGreatDoorTie
import Derived.Test.YtfpbmfalamappaaGreatDoorCards
import Derived.ProofKit
import Derived.LaidMore
import Derived.OpenShut
import Derived.Stop.Joined
import Derived.SevenTiedAt
import Derived.Lib.LaidTab
import Derived.Lib.ItoaNum
set_option linter.unusedSimpArgs false
set_option linter.unusedVariables false
namespace Go.Proofs.YtfpbmfalamappaaGreatDoor.snapshotCounts
open Go.ChangeShapes Go.WideShapes Go.ChangeAt Go.RowKit
theorem step (os : Os) (started : os.Started) (H : Type) (enc : TypeId × Value → H) :
    ReturnsInHanded Rows.snapshotCountsRow.assume Tryz.pinned.checked os 5 .any (Rows.snapshotCountsRow.pre enc Tryz.pinned.checked.prog Tryz.f5 (OpenSpec.ofChange Rows.snapshotCountsSpec)) (Rows.snapshotCountsSpec.post enc Tryz.pinned.checked.prog Tryz.f5 Rows.snapshotCountsRow.apart Rows.snapshotCountsRow.fresh Rows.snapshotCountsRow.handsOn Rows.snapshotCountsRow.again) := by
  rw [OpenClaim.pre_eq_preRow]
  exact lifted os started H enc
theorem closedF : joinedFacts Tryz.pinned.checked.prog 5 Tryz.f5 Rows.snapshotCountsSpec Rows.snapshotCountsRow = true := by kernel_rfl
theorem over:Rows.SnapshotCountsSaid :=
 OpenClaim.holds_of_wide (p := Tryz.pinned) (s := Rows.snapshotCountsSpec) (c := Rows.snapshotCountsRow) 5 Tryz.f5 rfl rfl rfl rfl rfl rfl rfl ⟨rfl,rfl,rfl,rfl,rfl⟩ rfl rfl rfl rfl rfl (by kernel_rfl) Tryz.func5 closedF
  (abD (by kernel_rfl)) (by unfold Func.isWrapper;first|(rw [if_pos (by decide +kernel)];kernel_rfl)|(rw [if_neg (by decide +kernel)];exact ⟨rfl,rfl⟩))
  (fun os started H enc _=>lifted os started H enc)
theorem proved:Rows.SnapshotCountsCardSaid :=
 Claim7.holds_tied_plain_at .later [] [.data, .data, .data] true (true, "5df2d613077d01c261e39854280875a1a3094570ea9023d7979ba7653d31e361") false
  over (fun _ h=>by cases h) (by kernel_rfl) (fun _ h=>by cases h) snapshotCounts_row_tie rfl ⟨rfl,rfl⟩ (by kernel_rfl) rfl
  (fun f fn hf hfn=>by
   obtain rfl : f = 5 := abH ((show Tryz.prog.funcNamed "bitemporal/bitemporallaw21.SnapshotCounts" = some 5 by kernel_rfl).symm.trans hf) |>.symm
   obtain rfl:fn=Tryz.f5:=(abH (Tryz.func5.symm.trans hfn)).symm
   exact ⟨by kernel_rfl,fun j t ht=>by
    rw [Tryz.params5] at ht
    rcases j with _|_|j
    ·obtain rfl:t=42:=by simpa using ht.symm
     exact (show Tryz.prog.wantsStandIn 42=false by kernel_rfl)
    ·obtain rfl:t=22:=by simpa using ht.symm
     exact (show Tryz.prog.wantsStandIn 22=false by kernel_rfl)
    ·simp at ht⟩)
  (by kernel_rfl)
#print axioms proved
end Go.Proofs.YtfpbmfalamappaaGreatDoor.snapshotCounts
