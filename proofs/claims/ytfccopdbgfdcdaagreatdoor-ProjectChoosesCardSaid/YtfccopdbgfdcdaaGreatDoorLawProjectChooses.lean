/- The law ProjectChooses returns true for every argument. No condition. -/
import Derived.Test.YtfccopdbgfdcdaaGreatDoorLawProjectChoosesA
import Derived.Test.YtfccopdbgfdcdaaGreatDoorKBV
import Derived.Test.YtfccopdbgfdcdaaGreatDoorKZA
import Derived.Test.YtfccopdbgfdcdaaGreatDoorKBO
import Derived.Test.YtfccopdbgfdcdaaGreatDoorRows
import Derived.Test.YtfccopdbgfdcdaaGreatDoorTie
import Derived.Test.YtfccopdbgfdcdaaGreatDoorCards
import Derived.ProofKit
import Derived.LaidMore
import Derived.OpenShut
import Derived.Stop.Joined
import Derived.SevenTiedAt
import Derived.Lib.LaidTab
import Derived.Lib.ItoaNum
set_option linter.unusedSimpArgs false
set_option linter.unusedVariables false
namespace Go.Proofs.YtfccopdbgfdcdaaGreatDoor.projectChooses
open Go.ChangeShapes Go.WideShapes Go.ChangeAt Go.RowKit
theorem step (os : Os) (started : os.Started) (H : Type) (enc : TypeId × Value → H) :
    ReturnsInHanded Rows.projectChoosesRow.assume Tryz.pinned.checked os 5 .any (Rows.projectChoosesRow.pre enc Tryz.pinned.checked.prog Tryz.f5 (OpenSpec.ofChange Rows.projectChoosesSpec)) (Rows.projectChoosesSpec.post enc Tryz.pinned.checked.prog Tryz.f5 Rows.projectChoosesRow.apart Rows.projectChoosesRow.fresh Rows.projectChoosesRow.handsOn Rows.projectChoosesRow.again) := by
  rw [OpenClaim.pre_eq_preRow]
  exact lifted os started H enc
theorem closedF : joinedFacts Tryz.pinned.checked.prog 5 Tryz.f5 Rows.projectChoosesSpec Rows.projectChoosesRow = true := by kernel_rfl
theorem over:Rows.ProjectChoosesSaid :=
 OpenClaim.holds_of_wide (p := Tryz.pinned) (s := Rows.projectChoosesSpec) (c := Rows.projectChoosesRow) 5 Tryz.f5 rfl rfl rfl rfl rfl rfl rfl ⟨rfl,rfl,rfl,rfl,rfl⟩ rfl rfl rfl rfl rfl (by kernel_rfl) Tryz.func5 closedF
  (of_decide_eq_true (by kernel_rfl)) (by unfold Func.isWrapper;first|(rw [if_pos (by decide +kernel)];kernel_rfl)|(rw [if_neg (by decide +kernel)];exact ⟨rfl,rfl⟩))
  (fun os started H enc _=>lifted os started H enc)
theorem proved:Rows.ProjectChoosesCardSaid :=
 Claim7.holds_tied_plain_at .later [] [.data, .data, .data] true (true, "138c0b3c08fcf7312f09c09baa272c364a391f6c45ae7fa9bfb9c26574f962c1") false
  over (fun _ h=>by cases h) (by kernel_rfl) (fun _ h=>by cases h) projectChooses_row_tie rfl ⟨rfl,rfl⟩ (by kernel_rfl) rfl
  (fun f fn hf hfn=>by
   obtain rfl : f = 5 := Option.some.inj ((show Tryz.prog.funcNamed "bitemporal/bitemporallaw23.ProjectChooses" = some 5 by kernel_rfl).symm.trans hf) |>.symm
   obtain rfl:fn=Tryz.f5:=(Option.some.inj (Tryz.func5.symm.trans hfn)).symm
   exact ⟨by kernel_rfl,fun j t ht=>by
    rw [Tryz.params5] at ht
    rcases j with _|_|_|j
    ·obtain rfl:t=25:=by simpa using ht.symm
     exact (show Tryz.prog.wantsStandIn 25=false by kernel_rfl)
    ·obtain rfl:t=41:=by simpa using ht.symm
     exact (show Tryz.prog.wantsStandIn 41=false by kernel_rfl)
    ·obtain rfl:t=43:=by simpa using ht.symm
     exact (show Tryz.prog.wantsStandIn 43=false by kernel_rfl)
    ·simp at ht⟩)
  (by kernel_rfl)
#print axioms proved
end Go.Proofs.YtfccopdbgfdcdaaGreatDoor.projectChooses
