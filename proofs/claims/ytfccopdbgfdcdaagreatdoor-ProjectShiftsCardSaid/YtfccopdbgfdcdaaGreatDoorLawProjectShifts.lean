/- The law ProjectShifts returns true for every argument. No condition. -/
import Derived.Test.YtfccopdbgfdcdaaGreatDoorLawProjectShiftsA
import Derived.Test.YtfccopdbgfdcdaaGreatDoorKBS
import Derived.Test.YtfccopdbgfdcdaaGreatDoorKBP
import Derived.Test.YtfccopdbgfdcdaaGreatDoorRows
import Derived.Test.YtfccopdbgfdcdaaGreatDoorTie
import Derived.Test.YtfccopdbgfdcdaaGreatDoorCards
import Derived.ProofKit
import Derived.LaidMore
import Derived.OpenShut
import Derived.Stop.Joined
import Derived.SevenTiedAt
import Derived.Lib.LaidTab
import Derived.Lib.ItoaNum
set_option linter.unusedSimpArgs false
set_option linter.unusedVariables false
namespace Go.Proofs.YtfccopdbgfdcdaaGreatDoor.projectShifts
open Go.ChangeShapes Go.WideShapes Go.ChangeAt Go.RowKit
set_option linter.unusedVariables false
set_option linter.unusedSimpArgs false
theorem step (os : Os) (started : os.Started) (H : Type) (enc : TypeId × Value → H) :
    ReturnsInHanded Rows.projectShiftsRow.assume Tryz.pinned.checked os 6 .any (Rows.projectShiftsRow.pre enc Tryz.pinned.checked.prog Tryz.f6 (OpenSpec.ofChange Rows.projectShiftsSpec)) (Rows.projectShiftsSpec.post enc Tryz.pinned.checked.prog Tryz.f6 Rows.projectShiftsRow.apart Rows.projectShiftsRow.fresh Rows.projectShiftsRow.handsOn Rows.projectShiftsRow.again) := by
  rw [OpenClaim.pre_eq_preRow]
  exact lifted os started H enc
theorem closedF : joinedFacts Tryz.pinned.checked.prog 6 Tryz.f6 Rows.projectShiftsSpec Rows.projectShiftsRow = true := by kernel_rfl
theorem over : Rows.ProjectShiftsSaid :=
  OpenClaim.holds_of_wide (p := Tryz.pinned) (s := Rows.projectShiftsSpec) (c := Rows.projectShiftsRow) 6 Tryz.f6 rfl rfl rfl rfl rfl rfl rfl ⟨rfl, rfl, rfl, rfl, rfl⟩ rfl rfl rfl rfl rfl (by kernel_rfl) Tryz.func6 closedF
    (of_decide_eq_true (by kernel_rfl)) (by unfold Func.isWrapper; first | (rw [if_pos (by decide +kernel)]; kernel_rfl) | (rw [if_neg (by decide +kernel)]; exact ⟨rfl, rfl⟩))
    (fun os started H enc _ => step os started H enc)
theorem proved : Rows.ProjectShiftsCardSaid :=
  Claim7.holds_tied_plain_at .later [] [.data, .data, .data] true (true, "138c0b3c08fcf7312f09c09baa272c364a391f6c45ae7fa9bfb9c26574f962c1") false
    over (fun _ h => by cases h) (by kernel_rfl) (fun _ h => by cases h) projectShifts_row_tie rfl ⟨rfl, rfl⟩ (by kernel_rfl) rfl
    (fun f fn hf hfn => by
      obtain rfl : f = 6 := Option.some.inj ((show Tryz.prog.funcNamed "bitemporal/bitemporallaw23.ProjectShifts" = some 6 by kernel_rfl).symm.trans hf) |>.symm
      obtain rfl : fn = Tryz.f6 := (Option.some.inj (Tryz.func6.symm.trans hfn)).symm
      exact ⟨by kernel_rfl, fun j t ht => by
        rw [Tryz.params6] at ht
        rcases j with _ | _ | j
        · obtain rfl : t = 25 := by simpa using ht.symm
          exact (show Tryz.prog.wantsStandIn 25 = false by kernel_rfl)
        · obtain rfl : t = 3 := by simpa using ht.symm
          exact (show Tryz.prog.wantsStandIn 3 = false by kernel_rfl)
        · simp at ht⟩)
    (by kernel_rfl)
#print axioms proved
end Go.Proofs.YtfccopdbgfdcdaaGreatDoor.projectShifts
