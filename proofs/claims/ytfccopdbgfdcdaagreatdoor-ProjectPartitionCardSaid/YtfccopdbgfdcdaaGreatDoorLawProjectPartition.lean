/- The law ProjectPartition returns true for every argument. No condition. -/
import Derived.Test.YtfccopdbgfdcdaaGreatDoorLawProjectPartitionA
import Derived.Test.YtfccopdbgfdcdaaGreatDoorKBV
import Derived.Test.YtfccopdbgfdcdaaGreatDoorKVA
import Derived.Test.YtfccopdbgfdcdaaGreatDoorKBO
import Derived.Test.YtfccopdbgfdcdaaGreatDoorRows
import Derived.Test.YtfccopdbgfdcdaaGreatDoorTie
import Derived.Test.YtfccopdbgfdcdaaGreatDoorCards
import Derived.ProofKit
import Derived.LaidMore
import Derived.OpenShut
import Derived.Stop.Joined
import Derived.SevenTiedAt
import Derived.Lib.LaidTab
import Derived.Lib.ItoaNum
set_option linter.unusedSimpArgs false
set_option linter.unusedVariables false
namespace Go.Proofs.YtfccopdbgfdcdaaGreatDoor.projectPartition
open Go.ChangeShapes Go.WideShapes Go.ChangeAt Go.RowKit
theorem step (os : Os) (started : os.Started) (H : Type) (enc : TypeId × Value → H) :
    ReturnsInHanded Rows.projectPartitionRow.assume Tryz.pinned.checked os 10 .any (Rows.projectPartitionRow.pre enc Tryz.pinned.checked.prog Tryz.f10 (OpenSpec.ofChange Rows.projectPartitionSpec)) (Rows.projectPartitionSpec.post enc Tryz.pinned.checked.prog Tryz.f10 Rows.projectPartitionRow.apart Rows.projectPartitionRow.fresh Rows.projectPartitionRow.handsOn Rows.projectPartitionRow.again) := by
  rw [OpenClaim.pre_eq_preRow]
  exact lifted os started H enc
theorem closedF : joinedFacts Tryz.pinned.checked.prog 10 Tryz.f10 Rows.projectPartitionSpec Rows.projectPartitionRow = true := by kernel_rfl
theorem over:Rows.ProjectPartitionSaid :=
 OpenClaim.holds_of_wide (p := Tryz.pinned) (s := Rows.projectPartitionSpec) (c := Rows.projectPartitionRow) 10 Tryz.f10 rfl rfl rfl rfl rfl rfl rfl ⟨rfl,rfl,rfl,rfl,rfl⟩ rfl rfl rfl rfl rfl (by kernel_rfl) Tryz.func10 closedF
  (of_decide_eq_true (by kernel_rfl)) (by unfold Func.isWrapper;first|(rw [if_pos (by decide +kernel)];kernel_rfl)|(rw [if_neg (by decide +kernel)];exact ⟨rfl,rfl⟩))
  (fun os started H enc _=>lifted os started H enc)
theorem proved:Rows.ProjectPartitionCardSaid :=
 Claim7.holds_tied_plain_at .later [] [.data, .data, .data] true (true, "138c0b3c08fcf7312f09c09baa272c364a391f6c45ae7fa9bfb9c26574f962c1") false
  over (fun _ h=>by cases h) (by kernel_rfl) (fun _ h=>by cases h) projectPartition_row_tie rfl ⟨rfl,rfl⟩ (by kernel_rfl) rfl
  (fun f fn hf hfn=>by
   obtain rfl : f = 10 := Option.some.inj ((show Tryz.prog.funcNamed "bitemporal/bitemporallaw23.ProjectPartition" = some 10 by kernel_rfl).symm.trans hf) |>.symm
   obtain rfl:fn=Tryz.f10:=(Option.some.inj (Tryz.func10.symm.trans hfn)).symm
   exact ⟨by kernel_rfl,fun j t ht=>by
    rw [Tryz.params10] at ht
    rcases j with _|_|_|j
    ·obtain rfl:t=25:=by simpa using ht.symm
     exact (show Tryz.prog.wantsStandIn 25=false by kernel_rfl)
    ·obtain rfl:t=43:=by simpa using ht.symm
     exact (show Tryz.prog.wantsStandIn 43=false by kernel_rfl)
    ·obtain rfl:t=41:=by simpa using ht.symm
     exact (show Tryz.prog.wantsStandIn 41=false by kernel_rfl)
    ·simp at ht⟩)
  (by kernel_rfl)
#print axioms proved
end Go.Proofs.YtfccopdbgfdcdaaGreatDoor.projectPartition
