/- The law NonseqRows returns true for every kinds and versions. No condition. -/
import Derived.Test.YtnbnpnmkgemdeaaGreatDoorLawNonseqRowsA
import Derived.Test.YtnbnpnmkgemdeaaGreatDoorKYC
import Derived.Test.YtnbnpnmkgemdeaaGreatDoorKBM
import Derived.Test.YtnbnpnmkgemdeaaGreatDoorRows
import Derived.Test.YtnbnpnmkgemdeaaGreatDoorTie
import Derived.Test.YtnbnpnmkgemdeaaGreatDoorCards
import Derived.ProofKit
import Derived.LaidMore
import Derived.OpenShut
import Derived.Stop.Joined
import Derived.SevenTiedAt
import Derived.Lib.LaidTab
import Derived.Lib.ItoaNum
set_option linter.unusedSimpArgs false
set_option linter.unusedVariables false
namespace Go.Proofs.YtnbnpnmkgemdeaaGreatDoor.nonseqRows
open Go.ChangeShapes Go.WideShapes Go.ChangeAt Go.RowKit
set_option linter.unusedVariables false
set_option linter.unusedSimpArgs false
theorem step (os : Os) (started : os.Started) (H : Type) (enc : TypeId × Value → H) :
    ReturnsInHanded Rows.nonseqRowsRow.assume Tryz.pinned.checked os 4 .any (Rows.nonseqRowsRow.pre enc Tryz.pinned.checked.prog Tryz.f4 (OpenSpec.ofChange Rows.nonseqRowsSpec)) (Rows.nonseqRowsSpec.post enc Tryz.pinned.checked.prog Tryz.f4 Rows.nonseqRowsRow.apart Rows.nonseqRowsRow.fresh Rows.nonseqRowsRow.handsOn Rows.nonseqRowsRow.again) := by
  rw [OpenClaim.pre_eq_preRow]
  exact lifted os started H enc
theorem closedF : joinedFacts Tryz.pinned.checked.prog 4 Tryz.f4 Rows.nonseqRowsSpec Rows.nonseqRowsRow = true := by kernel_rfl
theorem over : Rows.NonseqRowsSaid :=
  OpenClaim.holds_of_wide (p := Tryz.pinned) (s := Rows.nonseqRowsSpec) (c := Rows.nonseqRowsRow) 4 Tryz.f4 rfl rfl rfl rfl rfl rfl rfl ⟨rfl, rfl, rfl, rfl, rfl⟩ rfl rfl rfl rfl rfl (by kernel_rfl) Tryz.func4 closedF
    (of_decide_eq_true (by kernel_rfl)) (by unfold Func.isWrapper; first | (rw [if_pos (by decide +kernel)]; kernel_rfl) | (rw [if_neg (by decide +kernel)]; exact ⟨rfl, rfl⟩))
    (fun os started H enc _ => step os started H enc)
theorem proved : Rows.NonseqRowsCardSaid :=
  Claim7.holds_tied_plain_at .later [] [.data, .data, .data] true (true, "58f3560f517e42c612def1b7ed448ef881ecbc625af66c1edb624d2ab35814da") false
    over (fun _ h => by cases h) (by kernel_rfl) (fun _ h => by cases h) nonseqRows_row_tie rfl ⟨rfl, rfl⟩ (by kernel_rfl) rfl
    (fun f fn hf hfn => by
      obtain rfl : f = 4 := Option.some.inj ((show Tryz.prog.funcNamed "bitemporal/bitemporallaw28.NonseqRows" = some 4 by kernel_rfl).symm.trans hf) |>.symm
      obtain rfl : fn = Tryz.f4 := (Option.some.inj (Tryz.func4.symm.trans hfn)).symm
      exact ⟨by kernel_rfl, fun j t ht => by
        rw [Tryz.params4] at ht
        rcases j with _ | _ | j
        · obtain rfl : t = 34 := by simpa using ht.symm
          exact (show Tryz.prog.wantsStandIn 34 = false by kernel_rfl)
        · obtain rfl : t = 22 := by simpa using ht.symm
          exact (show Tryz.prog.wantsStandIn 22 = false by kernel_rfl)
        · simp at ht⟩)
    (by kernel_rfl)
#print axioms proved
end Go.Proofs.YtnbnpnmkgemdeaaGreatDoor.nonseqRows
