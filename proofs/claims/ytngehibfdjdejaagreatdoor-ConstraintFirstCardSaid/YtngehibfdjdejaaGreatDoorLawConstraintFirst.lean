/- The law ConstraintFirst returns true for every list of violations. No condition. -/
import Derived.Test.YtngehibfdjdejaaGreatDoorLawConstraintFirstA
import Derived.Test.YtngehibfdjdejaaGreatDoorKAQ
import Derived.Test.YtngehibfdjdejaaGreatDoorRows
import Derived.Test.YtngehibfdjdejaaGreatDoorTie
import Derived.Test.YtngehibfdjdejaaGreatDoorCards
import Derived.ProofKit
import Derived.LaidMore
import Derived.OpenShut
import Derived.Stop.Joined
import Derived.SevenTiedAt
import Derived.Lib.LaidTab
import Derived.Lib.ItoaNum
set_option linter.unusedSimpArgs false
set_option linter.unusedVariables false
namespace Go.Proofs.YtngehibfdjdejaaGreatDoor.constraintFirst
open Go.ChangeShapes Go.WideShapes Go.ChangeAt Go.RowKit
theorem step (os : Os) (started : os.Started) (H : Type) (enc : TypeId × Value → H) :
    ReturnsInHanded Rows.constraintFirstRow.assume Tryz.pinned.checked os 3 .any (Rows.constraintFirstRow.pre enc Tryz.pinned.checked.prog Tryz.f3 (OpenSpec.ofChange Rows.constraintFirstSpec)) (Rows.constraintFirstSpec.post enc Tryz.pinned.checked.prog Tryz.f3 Rows.constraintFirstRow.apart Rows.constraintFirstRow.fresh Rows.constraintFirstRow.handsOn Rows.constraintFirstRow.again) := by
  rw [OpenClaim.pre_eq_preRow]
  exact lifted os started H enc
theorem closedF : joinedFacts Tryz.pinned.checked.prog 3 Tryz.f3 Rows.constraintFirstSpec Rows.constraintFirstRow = true := by kernel_rfl
theorem over:Rows.ConstraintFirstSaid :=
 OpenClaim.holds_of_wide (p := Tryz.pinned) (s := Rows.constraintFirstSpec) (c := Rows.constraintFirstRow) 3 Tryz.f3 rfl rfl rfl rfl rfl rfl rfl ⟨rfl,rfl,rfl,rfl,rfl⟩ rfl rfl rfl rfl rfl (by kernel_rfl) Tryz.func3 closedF
  (of_decide_eq_true (by kernel_rfl)) (by unfold Func.isWrapper;first|(rw [if_pos (by decide +kernel)];kernel_rfl)|(rw [if_neg (by decide +kernel)];exact ⟨rfl,rfl⟩))
  (fun os started H enc _=>step os started H enc)
theorem proved:Rows.ConstraintFirstCardSaid :=
 Claim7.holds_tied_plain_at .later [] [.data, .data, .data] true (true, "3cf148eea3a673655705b5a4eb00c17eccf1b809ca528142e54c2fe7e0b4a1a6") false
  over (fun _ h=>by cases h) (by kernel_rfl) (fun _ h=>by cases h) constraintFirst_row_tie rfl ⟨rfl,rfl⟩ (by kernel_rfl) rfl
  (fun f fn hf hfn=>by
   obtain rfl : f = 3 := Option.some.inj ((show Tryz.prog.funcNamed "bitemporal/bitemporallaw45.ConstraintFirst" = some 3 by kernel_rfl).symm.trans hf) |>.symm
   obtain rfl:fn=Tryz.f3:=(Option.some.inj (Tryz.func3.symm.trans hfn)).symm
   exact ⟨by kernel_rfl,fun j t ht=>by
    rw [Tryz.params3] at ht
    rcases j with _|j
    ·obtain rfl:t=22:=by simpa using ht.symm
     exact (show Tryz.prog.wantsStandIn 22=false by kernel_rfl)
    ·simp at ht⟩)
  (by kernel_rfl)
#print axioms proved
end Go.Proofs.YtngehibfdjdejaaGreatDoor.constraintFirst
