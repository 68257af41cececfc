/- The law ProjectImages returns true for every argument. No condition. -/
import Derived.Test.YtfccopdbgfdcdaaGreatDoorLawProjectImagesA
import Derived.Test.YtfccopdbgfdcdaaGreatDoorKAA
import Derived.Test.YtfccopdbgfdcdaaGreatDoorKBW
import Derived.Test.YtfccopdbgfdcdaaGreatDoorKBO
import Derived.Test.YtfccopdbgfdcdaaGreatDoorRows
import Derived.Test.YtfccopdbgfdcdaaGreatDoorTie
import Derived.Test.YtfccopdbgfdcdaaGreatDoorCards
import Derived.ProofKit
import Derived.LaidMore
import Derived.OpenShut
import Derived.Stop.Joined
import Derived.SevenTiedAt
import Derived.Lib.LaidTab
import Derived.Lib.ItoaNum
set_option linter.unusedSimpArgs false
set_option linter.unusedVariables false
namespace Go.Proofs.YtfccopdbgfdcdaaGreatDoor.projectImages
open Go.ChangeShapes Go.WideShapes Go.ChangeAt Go.RowKit
theorem step (os : Os) (started : os.Started) (H : Type) (enc : TypeId × Value → H) :
    ReturnsInHanded Rows.projectImagesRow.assume Tryz.pinned.checked os 8 .any (Rows.projectImagesRow.pre enc Tryz.pinned.checked.prog Tryz.f8 (OpenSpec.ofChange Rows.projectImagesSpec)) (Rows.projectImagesSpec.post enc Tryz.pinned.checked.prog Tryz.f8 Rows.projectImagesRow.apart Rows.projectImagesRow.fresh Rows.projectImagesRow.handsOn Rows.projectImagesRow.again) := by
  rw [OpenClaim.pre_eq_preRow]
  exact lifted os started H enc
theorem closedF : joinedFacts Tryz.pinned.checked.prog 8 Tryz.f8 Rows.projectImagesSpec Rows.projectImagesRow = true := by kernel_rfl
theorem over:Rows.ProjectImagesSaid :=
 OpenClaim.holds_of_wide (p := Tryz.pinned) (s := Rows.projectImagesSpec) (c := Rows.projectImagesRow) 8 Tryz.f8 rfl rfl rfl rfl rfl rfl rfl ⟨rfl,rfl,rfl,rfl,rfl⟩ rfl rfl rfl rfl rfl (by kernel_rfl) Tryz.func8 closedF
  (aea (by kernel_rfl)) (by unfold Func.isWrapper;first|(rw [if_pos (by decide +kernel)];kernel_rfl)|(rw [if_neg (by decide +kernel)];exact ⟨rfl,rfl⟩))
  (fun os started H enc _=>lifted os started H enc)
theorem proved:Rows.ProjectImagesCardSaid :=
 Claim7.holds_tied_plain_at .later [] [.data, .data, .data] true (true, "138c0b3c08fcf7312f09c09baa272c364a391f6c45ae7fa9bfb9c26574f962c1") false
  over (fun _ h=>by cases h) (by kernel_rfl) (fun _ h=>by cases h) projectImages_row_tie rfl ⟨rfl,rfl⟩ (by kernel_rfl) rfl
  (fun f fn hf hfn=>by
   obtain rfl : f = 8 := aee ((show Tryz.prog.funcNamed "bitemporal/bitemporallaw23.ProjectImages" = some 8 by kernel_rfl).symm.trans hf) |>.symm
   obtain rfl:fn=Tryz.f8:=(aee (Tryz.func8.symm.trans hfn)).symm
   exact ⟨by kernel_rfl,fun j t ht=>by
    rw [Tryz.params8] at ht
    rcases j with _|_|_|j
    ·obtain rfl:t=25:=by simpa using ht.symm
     exact (show Tryz.prog.wantsStandIn 25=false by kernel_rfl)
    ·obtain rfl:t=28:=by simpa using ht.symm
     exact (show Tryz.prog.wantsStandIn 28=false by kernel_rfl)
    ·obtain rfl:t=3:=by simpa using ht.symm
     exact (show Tryz.prog.wantsStandIn 3=false by kernel_rfl)
    ·simp at ht⟩)
  (by kernel_rfl)
#print axioms proved
end Go.Proofs.YtfccopdbgfdcdaaGreatDoor.projectImages
