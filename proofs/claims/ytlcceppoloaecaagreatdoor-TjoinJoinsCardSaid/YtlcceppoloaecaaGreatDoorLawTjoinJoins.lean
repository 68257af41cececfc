/- The law TjoinJoins returns true for every argument. No condition. -/
import Derived.Test.YtlcceppoloaecaaGreatDoorLawTjoinJoinsA
import Derived.Test.YtlcceppoloaecaaGreatDoorKAA
import Derived.Test.YtlcceppoloaecaaGreatDoorKCO
import Derived.Test.YtlcceppoloaecaaGreatDoorRows
import Derived.Test.YtlcceppoloaecaaGreatDoorTie
import Derived.Test.YtlcceppoloaecaaGreatDoorCards
import Derived.ProofKit
import Derived.LaidMore
import Derived.OpenShut
import Derived.Stop.Joined
import Derived.SevenTiedAt
import Derived.Lib.LaidTab
import Derived.Lib.ItoaNum
set_option linter.unusedSimpArgs false
set_option linter.unusedVariables false
namespace Go.Proofs.YtlcceppoloaecaaGreatDoor.tjoinJoins
open Go.ChangeShapes Go.WideShapes Go.ChangeAt Go.RowKit
theorem step (os : Os) (started : os.Started) (H : Type) (enc : TypeId × Value → H) :
    ReturnsInHanded Rows.tjoinJoinsRow.assume Tryz.pinned.checked os 4 .any (Rows.tjoinJoinsRow.pre enc Tryz.pinned.checked.prog Tryz.f4 (OpenSpec.ofChange Rows.tjoinJoinsSpec)) (Rows.tjoinJoinsSpec.post enc Tryz.pinned.checked.prog Tryz.f4 Rows.tjoinJoinsRow.apart Rows.tjoinJoinsRow.fresh Rows.tjoinJoinsRow.handsOn Rows.tjoinJoinsRow.again) := by
  rw [OpenClaim.pre_eq_preRow]
  exact lifted os started H enc
theorem closedF : joinedFacts Tryz.pinned.checked.prog 4 Tryz.f4 Rows.tjoinJoinsSpec Rows.tjoinJoinsRow = true := by kernel_rfl
theorem over:Rows.TjoinJoinsSaid :=
 OpenClaim.holds_of_wide (p := Tryz.pinned) (s := Rows.tjoinJoinsSpec) (c := Rows.tjoinJoinsRow) 4 Tryz.f4 rfl rfl rfl rfl rfl rfl rfl ⟨rfl,rfl,rfl,rfl,rfl⟩ rfl rfl rfl rfl rfl (by kernel_rfl) Tryz.func4 closedF
  (aqs (by kernel_rfl)) (by unfold Func.isWrapper;first|(rw [if_pos (by decide +kernel)];kernel_rfl)|(rw [if_neg (by decide +kernel)];exact ⟨rfl,rfl⟩))
  (fun os started H enc _=>step os started H enc)
theorem proved:Rows.TjoinJoinsCardSaid :=
 Claim7.holds_tied_plain_at .later [] [.data, .data, .data] true (true, "7f5b8fa707f7d2afc8d56363dc44e6a58cba0e1e9264239b5f41b414bcf8add7") false
  over (fun _ h=>by cases h) (by kernel_rfl) (fun _ h=>by cases h) tjoinJoins_row_tie rfl ⟨rfl,rfl⟩ (by kernel_rfl) rfl
  (fun f fn hf hfn=>by
   obtain rfl : f = 4 := aqw ((show Tryz.prog.funcNamed "bitemporal/bitemporallaw24.TjoinJoins" = some 4 by kernel_rfl).symm.trans hf) |>.symm
   obtain rfl:fn=Tryz.f4:=(aqw (Tryz.func4.symm.trans hfn)).symm
   exact ⟨by kernel_rfl,fun j t ht=>by
    rw [Tryz.params4] at ht
    rcases j with _|_|_|j
    ·obtain rfl:t=31:=by simpa using ht.symm
     exact (show Tryz.prog.wantsStandIn 31=false by kernel_rfl)
    ·obtain rfl:t=31:=by simpa using ht.symm
     exact (show Tryz.prog.wantsStandIn 31=false by kernel_rfl)
    ·obtain rfl:t=36:=by simpa using ht.symm
     exact (show Tryz.prog.wantsStandIn 36=false by kernel_rfl)
    ·simp at ht⟩)
  (by kernel_rfl)
#print axioms proved
end Go.Proofs.YtlcceppoloaecaaGreatDoor.tjoinJoins
