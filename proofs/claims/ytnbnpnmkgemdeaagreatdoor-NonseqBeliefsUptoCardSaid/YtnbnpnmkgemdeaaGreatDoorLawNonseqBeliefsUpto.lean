/- The card of the law NonseqBeliefs, second form. -/
import Derived.Test.YtnbnpnmkgemdeaaGreatDoorKXB
import Derived.Test.YtnbnpnmkgemdeaaGreatDoorRows
import Derived.Test.YtnbnpnmkgemdeaaGreatDoorTie
import Derived.Test.YtnbnpnmkgemdeaaGreatDoorCards
import Derived.ProofKit
import Derived.Deep.DeepHandedRow
import Derived.LaidMore
import Derived.OpenShut
import Derived.Stop.Joined
import Derived.SevenTiedAt
import Derived.Lib.LaidTab
import Derived.Lib.ItoaNum
set_option linter.unusedSimpArgs false
set_option linter.unusedVariables false
namespace Go.Proofs.YtnbnpnmkgemdeaaGreatDoor.nonseqBeliefsUpto
open Go.ChangeShapes Go.WideShapes Go.ChangeAt Go.RowKit
set_option linter.unusedVariables false
set_option linter.unusedSimpArgs false
theorem step (os : Os) (started : os.Started) (H : Type) (enc : TypeId × Value → H) (F : Stop.Interp) :
    ReturnsInHanded Rows.nonseqBeliefsUptoRow.assume Tryz.pinned.checked os 5 .any (Rows.nonseqBeliefsUptoRow.pre enc Tryz.pinned.checked.prog Tryz.f5 sp) ((sp.at F).post enc Tryz.pinned.checked.prog Tryz.f5 Rows.nonseqBeliefsUptoRow.apart Rows.nonseqBeliefsUptoRow.fresh Rows.nonseqBeliefsUptoRow.handsOn Rows.nonseqBeliefsUptoRow.again) := by
  rw [OpenClaim.pre_eq_preRow]
  exact lifted os started H enc F
theorem closedF : joinedFacts Tryz.pinned.checked.prog 5 Tryz.f5 sp.bare Rows.nonseqBeliefsUptoRow = true := by kernel_rfl
theorem over : Rows.NonseqBeliefsUptoSaid :=
  OpenClaim.holds_of_cond (p := Tryz.pinned) (s := sp) (c := Rows.nonseqBeliefsUptoRow) 5 Tryz.f5 rfl rfl rfl rfl rfl rfl rfl ⟨rfl, rfl, rfl, rfl, rfl⟩ rfl rfl rfl rfl rfl (by kernel_rfl) Tryz.func5 closedF
    (of_decide_eq_true (by kernel_rfl)) (by unfold Func.isWrapper; first | (rw [if_pos (by decide +kernel)]; kernel_rfl) | (rw [if_neg (by decide +kernel)]; exact ⟨rfl, rfl⟩))
    (fun os started H enc _ F => step os started H enc F)
theorem proved : Rows.NonseqBeliefsUptoCardSaid :=
  Claim7.holds_tied_plain_at .later [] [.data, .data, .data] true (true, "58f3560f517e42c612def1b7ed448ef881ecbc625af66c1edb624d2ab35814da") false
    over (fun _ h => by cases h) (by kernel_rfl) (fun _ h => by cases h) nonseqBeliefsUpto_row_tie rfl ⟨rfl, rfl⟩ (by kernel_rfl) rfl
    (fun f fn hf hfn => by
      obtain rfl : f = 5 := Option.some.inj ((show Tryz.prog.funcNamed "bitemporal/bitemporallaw28.NonseqBeliefs" = some 5 by kernel_rfl).symm.trans hf) |>.symm
      obtain rfl : fn = Tryz.f5 := (Option.some.inj (Tryz.func5.symm.trans hfn)).symm
      exact ⟨by kernel_rfl, fun j t ht => by
        rw [Tryz.params5] at ht
        rcases j with _ | _ | _ | j
        · obtain rfl : t = 22 := by simpa using ht.symm
          exact (show Tryz.prog.wantsStandIn 22 = false by kernel_rfl)
        · obtain rfl : t = 3 := by simpa using ht.symm
          exact (show Tryz.prog.wantsStandIn 3 = false by kernel_rfl)
        · obtain rfl : t = 3 := by simpa using ht.symm
          exact (show Tryz.prog.wantsStandIn 3 = false by kernel_rfl)
        · simp at ht⟩)
    (by kernel_rfl)
#print axioms proved
end Go.Proofs.YtnbnpnmkgemdeaaGreatDoor.nonseqBeliefsUpto
