/- The law ModifySnapshots returns true for every argument. No condition. -/
import Derived.Test.YtcehmafobkhdbaaGreatDoorLawModifySnapshotsA
import Derived.Test.YtcehmafobkhdbaaGreatDoorKAA
import Derived.Test.YtcehmafobkhdbaaGreatDoorKBI
import Derived.Test.YtcehmafobkhdbaaGreatDoorRows
import Derived.Test.YtcehmafobkhdbaaGreatDoorTie
import Derived.Test.YtcehmafobkhdbaaGreatDoorCards
import Derived.ProofKit
import Derived.LaidMore
import Derived.OpenShut
import Derived.Stop.Joined
import Derived.SevenTiedAt
import Derived.Lib.LaidTab
import Derived.Lib.ItoaNum
set_option linter.unusedSimpArgs false
set_option linter.unusedVariables false
namespace Go.Proofs.YtcehmafobkhdbaaGreatDoor.modifySnapshots
open Go.ChangeShapes Go.WideShapes Go.ChangeAt Go.RowKit
theorem step (os : Os) (started : os.Started) (H : Type) (enc : TypeId × Value → H) :
    ReturnsInHanded Rows.modifySnapshotsRow.assume Tryz.pinned.checked os 6 .any (Rows.modifySnapshotsRow.pre enc Tryz.pinned.checked.prog Tryz.f6 (OpenSpec.ofChange Rows.modifySnapshotsSpec)) (Rows.modifySnapshotsSpec.post enc Tryz.pinned.checked.prog Tryz.f6 Rows.modifySnapshotsRow.apart Rows.modifySnapshotsRow.fresh Rows.modifySnapshotsRow.handsOn Rows.modifySnapshotsRow.again) := by
  rw [OpenClaim.pre_eq_preRow]
  exact lifted os started H enc
theorem closedF : joinedFacts Tryz.pinned.checked.prog 6 Tryz.f6 Rows.modifySnapshotsSpec Rows.modifySnapshotsRow = true := by kernel_rfl
theorem over:Rows.ModifySnapshotsSaid :=
 OpenClaim.holds_of_wide (p := Tryz.pinned) (s := Rows.modifySnapshotsSpec) (c := Rows.modifySnapshotsRow) 6 Tryz.f6 rfl rfl rfl rfl rfl rfl rfl ⟨rfl,rfl,rfl,rfl,rfl⟩ rfl rfl rfl rfl rfl (by kernel_rfl) Tryz.func6 closedF
  (ahm (by kernel_rfl)) (by unfold Func.isWrapper;first|(rw [if_pos (by decide +kernel)];kernel_rfl)|(rw [if_neg (by decide +kernel)];exact ⟨rfl,rfl⟩))
  (fun os started H enc _=>lifted os started H enc)
theorem proved:Rows.ModifySnapshotsCardSaid :=
 Claim7.holds_tied_plain_at .later [] [.data, .data, .data] true (true, "301d2aeea026213890257609429df288d0b4c0e0ed0b1f8d40a8b26b5e3842c9") false
  over (fun _ h=>by cases h) (by kernel_rfl) (fun _ h=>by cases h) modifySnapshots_row_tie rfl ⟨rfl,rfl⟩ (by kernel_rfl) rfl
  (fun f fn hf hfn=>by
   obtain rfl : f = 6 := ahq ((show Tryz.prog.funcNamed "bitemporal/bitemporallaw42.ModifySnapshots" = some 6 by kernel_rfl).symm.trans hf) |>.symm
   obtain rfl:fn=Tryz.f6:=(ahq (Tryz.func6.symm.trans hfn)).symm
   exact ⟨by kernel_rfl,fun j t ht=>by
    rw [Tryz.params6] at ht
    rcases j with _|_|_|j
    ·obtain rfl:t=25:=by simpa using ht.symm
     exact (show Tryz.prog.wantsStandIn 25=false by kernel_rfl)
    ·obtain rfl:t=35:=by simpa using ht.symm
     exact (show Tryz.prog.wantsStandIn 35=false by kernel_rfl)
    ·obtain rfl:t=3:=by simpa using ht.symm
     exact (show Tryz.prog.wantsStandIn 3=false by kernel_rfl)
    ·simp at ht⟩)
  (by kernel_rfl)
#print axioms proved
end Go.Proofs.YtcehmafobkhdbaaGreatDoor.modifySnapshots
