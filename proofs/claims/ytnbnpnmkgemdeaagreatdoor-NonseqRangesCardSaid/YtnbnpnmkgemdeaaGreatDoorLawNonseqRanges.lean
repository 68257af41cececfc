/- The law NonseqRanges returns true for every list of versions and every range. No condition. -/
import Derived.Test.YtnbnpnmkgemdeaaGreatDoorLawNonseqRangesA
import Derived.Test.YtnbnpnmkgemdeaaGreatDoorKBM
import Derived.Test.YtnbnpnmkgemdeaaGreatDoorKZA
import Derived.Test.YtnbnpnmkgemdeaaGreatDoorRows
import Derived.Test.YtnbnpnmkgemdeaaGreatDoorTie
import Derived.Test.YtnbnpnmkgemdeaaGreatDoorCards
import Derived.ProofKit
import Derived.LaidMore
import Derived.OpenShut
import Derived.Stop.Joined
import Derived.SevenTiedAt
import Derived.Lib.LaidTab
import Derived.Lib.ItoaNum
set_option linter.unusedSimpArgs false
set_option linter.unusedVariables false
namespace Go.Proofs.YtnbnpnmkgemdeaaGreatDoor.nonseqRanges
open Go.ChangeShapes Go.WideShapes Go.ChangeAt Go.RowKit
set_option linter.unusedVariables false
set_option linter.unusedSimpArgs false
theorem step (os : Os) (started : os.Started) (H : Type) (enc : TypeId × Value → H) :
    ReturnsInHanded Rows.nonseqRangesRow.assume Tryz.pinned.checked os 6 .any (Rows.nonseqRangesRow.pre enc Tryz.pinned.checked.prog Tryz.f6 (OpenSpec.ofChange Rows.nonseqRangesSpec)) (Rows.nonseqRangesSpec.post enc Tryz.pinned.checked.prog Tryz.f6 Rows.nonseqRangesRow.apart Rows.nonseqRangesRow.fresh Rows.nonseqRangesRow.handsOn Rows.nonseqRangesRow.again) := by
  rw [OpenClaim.pre_eq_preRow]
  exact lifted os started H enc
theorem closedF : joinedFacts Tryz.pinned.checked.prog 6 Tryz.f6 Rows.nonseqRangesSpec Rows.nonseqRangesRow = true := by kernel_rfl
theorem over : Rows.NonseqRangesSaid :=
  OpenClaim.holds_of_wide (p := Tryz.pinned) (s := Rows.nonseqRangesSpec) (c := Rows.nonseqRangesRow) 6 Tryz.f6 rfl rfl rfl rfl rfl rfl rfl ⟨rfl, rfl, rfl, rfl, rfl⟩ rfl rfl rfl rfl rfl (by kernel_rfl) Tryz.func6 closedF
    (of_decide_eq_true (by kernel_rfl)) (by unfold Func.isWrapper; first | (rw [if_pos (by decide +kernel)]; kernel_rfl) | (rw [if_neg (by decide +kernel)]; exact ⟨rfl, rfl⟩))
    (fun os started H enc _ => step os started H enc)
theorem proved : Rows.NonseqRangesCardSaid :=
  Claim7.holds_tied_plain_at .later [] [.data, .data, .data] true (true, "58f3560f517e42c612def1b7ed448ef881ecbc625af66c1edb624d2ab35814da") false
    over (fun _ h => by cases h) (by kernel_rfl) (fun _ h => by cases h) nonseqRanges_row_tie rfl ⟨rfl, rfl⟩ (by kernel_rfl) rfl
    (fun f fn hf hfn => by
      obtain rfl : f = 6 := Option.some.inj ((show Tryz.prog.funcNamed "bitemporal/bitemporallaw28.NonseqRanges" = some 6 by kernel_rfl).symm.trans hf) |>.symm
      obtain rfl : fn = Tryz.f6 := (Option.some.inj (Tryz.func6.symm.trans hfn)).symm
      exact ⟨by kernel_rfl, fun j t ht => by
        rw [Tryz.params6] at ht
        rcases j with _ | _ | _ | j
        · obtain rfl : t = 22 := by simpa using ht.symm
          exact (show Tryz.prog.wantsStandIn 22 = false by kernel_rfl)
        · obtain rfl : t = 3 := by simpa using ht.symm
          exact (show Tryz.prog.wantsStandIn 3 = false by kernel_rfl)
        · obtain rfl : t = 3 := by simpa using ht.symm
          exact (show Tryz.prog.wantsStandIn 3 = false by kernel_rfl)
        · simp at ht⟩)
    (by kernel_rfl)
#print axioms proved
end Go.Proofs.YtnbnpnmkgemdeaaGreatDoor.nonseqRanges
