/- The law ProjectSubstitutes returns true for every argument. No condition. -/
import Derived.Test.YtfccopdbgfdcdaaGreatDoorLawProjectSubstitutesA
import Derived.Test.YtfccopdbgfdcdaaGreatDoorKAA
import Derived.Test.YtfccopdbgfdcdaaGreatDoorKXA
import Derived.Test.YtfccopdbgfdcdaaGreatDoorKBO
import Derived.Test.YtfccopdbgfdcdaaGreatDoorRows
import Derived.Test.YtfccopdbgfdcdaaGreatDoorTie
import Derived.Test.YtfccopdbgfdcdaaGreatDoorCards
import Derived.ProofKit
import Derived.LaidMore
import Derived.OpenShut
import Derived.Stop.Joined
import Derived.SevenTiedAt
import Derived.Lib.LaidTab
import Derived.Lib.ItoaNum
set_option linter.unusedSimpArgs false
set_option linter.unusedVariables false
namespace Go.Proofs.YtfccopdbgfdcdaaGreatDoor.projectSubstitutes
open Go.ChangeShapes Go.WideShapes Go.ChangeAt Go.RowKit
theorem step (os : Os) (started : os.Started) (H : Type) (enc : TypeId × Value → H) :
    ReturnsInHanded Rows.projectSubstitutesRow.assume Tryz.pinned.checked os 11 .any (Rows.projectSubstitutesRow.pre enc Tryz.pinned.checked.prog Tryz.f11 (OpenSpec.ofChange Rows.projectSubstitutesSpec)) (Rows.projectSubstitutesSpec.post enc Tryz.pinned.checked.prog Tryz.f11 Rows.projectSubstitutesRow.apart Rows.projectSubstitutesRow.fresh Rows.projectSubstitutesRow.handsOn Rows.projectSubstitutesRow.again) := by
  rw [OpenClaim.pre_eq_preRow]
  exact lifted os started H enc
theorem closedF : joinedFacts Tryz.pinned.checked.prog 11 Tryz.f11 Rows.projectSubstitutesSpec Rows.projectSubstitutesRow = true := by kernel_rfl
theorem over:Rows.ProjectSubstitutesSaid :=
 OpenClaim.holds_of_wide (p := Tryz.pinned) (s := Rows.projectSubstitutesSpec) (c := Rows.projectSubstitutesRow) 11 Tryz.f11 rfl rfl rfl rfl rfl rfl rfl ⟨rfl,rfl,rfl,rfl,rfl⟩ rfl rfl rfl rfl rfl (by kernel_rfl) Tryz.func11 closedF
  (aea (by kernel_rfl)) (by unfold Func.isWrapper;first|(rw [if_pos (by decide +kernel)];kernel_rfl)|(rw [if_neg (by decide +kernel)];exact ⟨rfl,rfl⟩))
  (fun os started H enc _=>lifted os started H enc)
theorem proved:Rows.ProjectSubstitutesCardSaid :=
 Claim7.holds_tied_plain_at .later [] [.data, .data, .data] true (true, "138c0b3c08fcf7312f09c09baa272c364a391f6c45ae7fa9bfb9c26574f962c1") false
  over (fun _ h=>by cases h) (by kernel_rfl) (fun _ h=>by cases h) projectSubstitutes_row_tie rfl ⟨rfl,rfl⟩ (by kernel_rfl) rfl
  (fun f fn hf hfn=>by
   obtain rfl : f = 11 := aee ((show Tryz.prog.funcNamed "bitemporal/bitemporallaw23.ProjectSubstitutes" = some 11 by kernel_rfl).symm.trans hf) |>.symm
   obtain rfl:fn=Tryz.f11:=(aee (Tryz.func11.symm.trans hfn)).symm
   exact ⟨by kernel_rfl,fun j t ht=>by
    rw [Tryz.params11] at ht
    rcases j with _|_|_|j
    ·obtain rfl:t=25:=by simpa using ht.symm
     exact (show Tryz.prog.wantsStandIn 25=false by kernel_rfl)
    ·obtain rfl:t=28:=by simpa using ht.symm
     exact (show Tryz.prog.wantsStandIn 28=false by kernel_rfl)
    ·obtain rfl:t=30:=by simpa using ht.symm
     exact (show Tryz.prog.wantsStandIn 30=false by kernel_rfl)
    ·simp at ht⟩)
  (by kernel_rfl)
#print axioms proved
end Go.Proofs.YtfccopdbgfdcdaaGreatDoor.projectSubstitutes
