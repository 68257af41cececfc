/- The law SnapshotRows returns true for every argument. No condition. -/
import Derived.Test.YtfpbmfalamappaaGreatDoorLawSnapshotRowsA
import Derived.Test.YtfpbmfalamappaaGreatDoorKAA
import Derived.Test.YtfpbmfalamappaaGreatDoorKBE
import Derived.Test.YtfpbmfalamappaaGreatDoorRows
import Derived.Test.YtfpbmfalamappaaGreatDoorTie
import Derived.Test.YtfpbmfalamappaaGreatDoorCards
import Derived.ProofKit
import Derived.LaidMore
import Derived.OpenShut
import Derived.Stop.Joined
import Derived.SevenTiedAt
import Derived.Lib.LaidTab
import Derived.Lib.ItoaNum
set_option linter.unusedSimpArgs false
set_option linter.unusedVariables false
namespace Go.Proofs.YtfpbmfalamappaaGreatDoor.snapshotRows
open Go.ChangeShapes Go.WideShapes Go.ChangeAt Go.RowKit
theorem step (os : Os) (started : os.Started) (H : Type) (enc : TypeId × Value → H) :
    ReturnsInHanded Rows.snapshotRowsRow.assume Tryz.pinned.checked os 7 .any (Rows.snapshotRowsRow.pre enc Tryz.pinned.checked.prog Tryz.f7 (OpenSpec.ofChange Rows.snapshotRowsSpec)) (Rows.snapshotRowsSpec.post enc Tryz.pinned.checked.prog Tryz.f7 Rows.snapshotRowsRow.apart Rows.snapshotRowsRow.fresh Rows.snapshotRowsRow.handsOn Rows.snapshotRowsRow.again) := by
  rw [OpenClaim.pre_eq_preRow]
  exact lifted os started H enc
theorem closedF : joinedFacts Tryz.pinned.checked.prog 7 Tryz.f7 Rows.snapshotRowsSpec Rows.snapshotRowsRow = true := by kernel_rfl
theorem over:Rows.SnapshotRowsSaid :=
 OpenClaim.holds_of_wide (p := Tryz.pinned) (s := Rows.snapshotRowsSpec) (c := Rows.snapshotRowsRow) 7 Tryz.f7 rfl rfl rfl rfl rfl rfl rfl ⟨rfl,rfl,rfl,rfl,rfl⟩ rfl rfl rfl rfl rfl (by kernel_rfl) Tryz.func7 closedF
  (abD (by kernel_rfl)) (by unfold Func.isWrapper;first|(rw [if_pos (by decide +kernel)];kernel_rfl)|(rw [if_neg (by decide +kernel)];exact ⟨rfl,rfl⟩))
  (fun os started H enc _=>lifted os started H enc)
theorem proved:Rows.SnapshotRowsCardSaid :=
 Claim7.holds_tied_plain_at .later [] [.data, .data, .data] true (true, "5df2d613077d01c261e39854280875a1a3094570ea9023d7979ba7653d31e361") false
  over (fun _ h=>by cases h) (by kernel_rfl) (fun _ h=>by cases h) snapshotRows_row_tie rfl ⟨rfl,rfl⟩ (by kernel_rfl) rfl
  (fun f fn hf hfn=>by
   obtain rfl : f = 7 := abH ((show Tryz.prog.funcNamed "bitemporal/bitemporallaw21.SnapshotRows" = some 7 by kernel_rfl).symm.trans hf) |>.symm
   obtain rfl:fn=Tryz.f7:=(abH (Tryz.func7.symm.trans hfn)).symm
   exact ⟨by kernel_rfl,fun j t ht=>by
    rw [Tryz.params7] at ht
    rcases j with _|_|_|j
    ·obtain rfl:t=42:=by simpa using ht.symm
     exact (show Tryz.prog.wantsStandIn 42=false by kernel_rfl)
    ·obtain rfl:t=28:=by simpa using ht.symm
     exact (show Tryz.prog.wantsStandIn 28=false by kernel_rfl)
    ·obtain rfl:t=26:=by simpa using ht.symm
     exact (show Tryz.prog.wantsStandIn 26=false by kernel_rfl)
    ·simp at ht⟩)
  (by kernel_rfl)
#print axioms proved
end Go.Proofs.YtfpbmfalamappaaGreatDoor.snapshotRows
