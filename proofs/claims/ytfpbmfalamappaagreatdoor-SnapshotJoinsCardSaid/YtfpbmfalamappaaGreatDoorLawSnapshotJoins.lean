/- The law SnapshotJoins returns true for every argument. No condition. -/
import Derived.Test.YtfpbmfalamappaaGreatDoorLawSnapshotJoinsA
import Derived.Test.YtfpbmfalamappaaGreatDoorKAA
import Derived.Test.YtfpbmfalamappaaGreatDoorKXA
import Derived.Test.YtfpbmfalamappaaGreatDoorRows
import Derived.Test.YtfpbmfalamappaaGreatDoorTie
import Derived.Test.YtfpbmfalamappaaGreatDoorCards
import Derived.ProofKit
import Derived.LaidMore
import Derived.OpenShut
import Derived.Stop.Joined
import Derived.SevenTiedAt
import Derived.Lib.LaidTab
import Derived.Lib.ItoaNum
set_option linter.unusedSimpArgs false
set_option linter.unusedVariables false
namespace Go.Proofs.YtfpbmfalamappaaGreatDoor.snapshotJoins
open Go.ChangeShapes Go.WideShapes Go.ChangeAt Go.RowKit
theorem step (os : Os) (started : os.Started) (H : Type) (enc : TypeId × Value → H) :
    ReturnsInHanded Rows.snapshotJoinsRow.assume Tryz.pinned.checked os 9 .any (Rows.snapshotJoinsRow.pre enc Tryz.pinned.checked.prog Tryz.f9 (OpenSpec.ofChange Rows.snapshotJoinsSpec)) (Rows.snapshotJoinsSpec.post enc Tryz.pinned.checked.prog Tryz.f9 Rows.snapshotJoinsRow.apart Rows.snapshotJoinsRow.fresh Rows.snapshotJoinsRow.handsOn Rows.snapshotJoinsRow.again) := by
  rw [OpenClaim.pre_eq_preRow]
  exact lifted os started H enc
theorem closedF : joinedFacts Tryz.pinned.checked.prog 9 Tryz.f9 Rows.snapshotJoinsSpec Rows.snapshotJoinsRow = true := by kernel_rfl
theorem over:Rows.SnapshotJoinsSaid :=
 OpenClaim.holds_of_wide (p := Tryz.pinned) (s := Rows.snapshotJoinsSpec) (c := Rows.snapshotJoinsRow) 9 Tryz.f9 rfl rfl rfl rfl rfl rfl rfl ⟨rfl,rfl,rfl,rfl,rfl⟩ rfl rfl rfl rfl rfl (by kernel_rfl) Tryz.func9 closedF
  (abD (by kernel_rfl)) (by unfold Func.isWrapper;first|(rw [if_pos (by decide +kernel)];kernel_rfl)|(rw [if_neg (by decide +kernel)];exact ⟨rfl,rfl⟩))
  (fun os started H enc _=>lifted os started H enc)
theorem proved:Rows.SnapshotJoinsCardSaid :=
 Claim7.holds_tied_plain_at .later [] [.data, .data, .data] true (true, "5df2d613077d01c261e39854280875a1a3094570ea9023d7979ba7653d31e361") false
  over (fun _ h=>by cases h) (by kernel_rfl) (fun _ h=>by cases h) snapshotJoins_row_tie rfl ⟨rfl,rfl⟩ (by kernel_rfl) rfl
  (fun f fn hf hfn=>by
   obtain rfl : f = 9 := abH ((show Tryz.prog.funcNamed "bitemporal/bitemporallaw21.SnapshotJoins" = some 9 by kernel_rfl).symm.trans hf) |>.symm
   obtain rfl:fn=Tryz.f9:=(abH (Tryz.func9.symm.trans hfn)).symm
   exact ⟨by kernel_rfl,fun j t ht=>by
    rw [Tryz.params9] at ht
    rcases j with _|_|_|j
    ·obtain rfl:t=42:=by simpa using ht.symm
     exact (show Tryz.prog.wantsStandIn 42=false by kernel_rfl)
    ·obtain rfl:t=42:=by simpa using ht.symm
     exact (show Tryz.prog.wantsStandIn 42=false by kernel_rfl)
    ·obtain rfl:t=28:=by simpa using ht.symm
     exact (show Tryz.prog.wantsStandIn 28=false by kernel_rfl)
    ·simp at ht⟩)
  (by kernel_rfl)
#print axioms proved
end Go.Proofs.YtfpbmfalamappaaGreatDoor.snapshotJoins
