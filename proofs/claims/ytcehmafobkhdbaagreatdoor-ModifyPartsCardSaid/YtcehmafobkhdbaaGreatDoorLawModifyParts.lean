/- The law ModifyParts returns true for every argument. No condition. -/
import Derived.Test.YtcehmafobkhdbaaGreatDoorLawModifyPartsA
import Derived.Test.YtcehmafobkhdbaaGreatDoorKAA
import Derived.Test.YtcehmafobkhdbaaGreatDoorKBN
import Derived.Test.YtcehmafobkhdbaaGreatDoorKWA
import Derived.Test.YtcehmafobkhdbaaGreatDoorRows
import Derived.Test.YtcehmafobkhdbaaGreatDoorTie
import Derived.Test.YtcehmafobkhdbaaGreatDoorCards
import Derived.ProofKit
import Derived.LaidMore
import Derived.OpenShut
import Derived.Stop.Joined
import Derived.SevenTiedAt
import Derived.Lib.LaidTab
import Derived.Lib.ItoaNum
set_option linter.unusedSimpArgs false
set_option linter.unusedVariables false
namespace Go.Proofs.YtcehmafobkhdbaaGreatDoor.modifyParts
open Go.ChangeShapes Go.WideShapes Go.ChangeAt Go.RowKit
theorem step (os : Os) (started : os.Started) (H : Type) (enc : TypeId × Value → H) :
    ReturnsInHanded Rows.modifyPartsRow.assume Tryz.pinned.checked os 7 .any (Rows.modifyPartsRow.pre enc Tryz.pinned.checked.prog Tryz.f7 (OpenSpec.ofChange Rows.modifyPartsSpec)) (Rows.modifyPartsSpec.post enc Tryz.pinned.checked.prog Tryz.f7 Rows.modifyPartsRow.apart Rows.modifyPartsRow.fresh Rows.modifyPartsRow.handsOn Rows.modifyPartsRow.again) := by
  rw [OpenClaim.pre_eq_preRow]
  exact lifted os started H enc
theorem closedF : joinedFacts Tryz.pinned.checked.prog 7 Tryz.f7 Rows.modifyPartsSpec Rows.modifyPartsRow = true := by kernel_rfl
theorem over:Rows.ModifyPartsSaid :=
 OpenClaim.holds_of_wide (p := Tryz.pinned) (s := Rows.modifyPartsSpec) (c := Rows.modifyPartsRow) 7 Tryz.f7 rfl rfl rfl rfl rfl rfl rfl ⟨rfl,rfl,rfl,rfl,rfl⟩ rfl rfl rfl rfl rfl (by kernel_rfl) Tryz.func7 closedF
  (ahm (by kernel_rfl)) (by unfold Func.isWrapper;first|(rw [if_pos (by decide +kernel)];kernel_rfl)|(rw [if_neg (by decide +kernel)];exact ⟨rfl,rfl⟩))
  (fun os started H enc _=>lifted os started H enc)
theorem proved:Rows.ModifyPartsCardSaid :=
 Claim7.holds_tied_plain_at .later [] [.data, .data, .data] true (true, "301d2aeea026213890257609429df288d0b4c0e0ed0b1f8d40a8b26b5e3842c9") false
  over (fun _ h=>by cases h) (by kernel_rfl) (fun _ h=>by cases h) modifyParts_row_tie rfl ⟨rfl,rfl⟩ (by kernel_rfl) rfl
  (fun f fn hf hfn=>by
   obtain rfl : f = 7 := ahq ((show Tryz.prog.funcNamed "bitemporal/bitemporallaw42.ModifyParts" = some 7 by kernel_rfl).symm.trans hf) |>.symm
   obtain rfl:fn=Tryz.f7:=(ahq (Tryz.func7.symm.trans hfn)).symm
   exact ⟨by kernel_rfl,fun j t ht=>by
    rw [Tryz.params7] at ht
    rcases j with _|_|j
    ·obtain rfl:t=25:=by simpa using ht.symm
     exact (show Tryz.prog.wantsStandIn 25=false by kernel_rfl)
    ·obtain rfl:t=35:=by simpa using ht.symm
     exact (show Tryz.prog.wantsStandIn 35=false by kernel_rfl)
    ·simp at ht⟩)
  (by kernel_rfl)
#print axioms proved
end Go.Proofs.YtcehmafobkhdbaaGreatDoor.modifyParts
