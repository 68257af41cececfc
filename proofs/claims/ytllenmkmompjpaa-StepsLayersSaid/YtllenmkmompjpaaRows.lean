/-
  No cell of these rows narrows 'for every input' (looked for: loops, veiled, ifaces, maps, wideKeys, modest, calm, conditions, laid).
  DERIVED. THE GIVEN ROWS OF THIS SEAT. 8 by the template 'for every input the law returns true; each argument reads behind the call as it read before'; 0 by the template 'total and deterministic' (their statements: YtllenmkmompjpaaTotals.lean).
  GIVEN WITH THE SEED: the statements are not yours to turn. If you find one false, say at which input.
  Laid BY PROGRAM, IN A SANDBOX (cutbox-rows.mjs): the forced cells as the released guide's own fill.sh prints them over the translation ef3f7a6b4e121bfa… (all of the seat's roots in one cut). By AI agents, Wed Nov 11 2026. No macro, syntax, notation, axiom, sorry.
-/
import Derived.Test.YtllenmkmompjpaaChecked
import GoSem.Claim
import GoSem.ClaimJoined
import GoSem.ClaimMapViews
import Derived.JoinedTies
import Derived.KernelRfl
namespace Go.Proofs.Ytllenmkmompjpaa
/- THE CELL 'sum', in the pinned program and in every row, IS THE sha256 OF THE DUMP (.gsa) THAT YtllenmkmompjpaaProg.lean LOADS. Nothing in Lean hashes anything: it is a label: what it is worth is what the hold of that sum in a sandbox is worth. -/
noncomputable def Try.pinned : Pinned := { name := "ytllenmkmompjpaa", sum := "ef3f7a6b4e121bfa9834d6fd9e9aeec4542bea62aab41b93bc1ac029c7ac514b", checked := Try.checked }
namespace Rows
def none {H : Type} : Left H := { results := [], args := [] }

/-- 'bitemporallaw04.StepsOf': WHATEVER THE INPUT: true; the input reads as it did. -/
def stepsOfSpec : ChangeSpec := { name := "stepsOf", fn := fun _ => fun
  | [d] => { results := [.lit (.bool true)], args := [d] }
  | _ => none }
def stepsOfRow : OpenClaim := { program := "ytllenmkmompjpaa", sum := "ef3f7a6b4e121bfa9834d6fd9e9aeec4542bea62aab41b93bc1ac029c7ac514b", func := "bitemporal/bitemporallaw04.StepsOf", spec := "stepsOf", unfollowed := true, recurses := true, apart := false }
def StepsOfSaid : Prop := stepsOfRow.holds Try.pinned (OpenSpec.ofChange stepsOfSpec)

/-- ITS FALSE NEIGHBOUR: 'it returns false'. Refute it at one input. -/
def stepsOfWrong : ChangeSpec := { name := "stepsOf", fn := fun _ => fun
  | [d] => { results := [.lit (.bool false)], args := [d] }
  | _ => none }
def StepsOfWrongFalsely : Prop := stepsOfRow.holds Try.pinned (OpenSpec.ofChange stepsOfWrong)

/-- 'bitemporallaw04.StepsLevels': WHATEVER THE INPUT: true; the input reads as it did. -/
def stepsLevelsSpec : ChangeSpec := { name := "stepsLevels", fn := fun _ => fun
  | [d1, d2] => { results := [.lit (.bool true)], args := [d1, d2] }
  | _ => none }
def stepsLevelsRow : OpenClaim := { program := "ytllenmkmompjpaa", sum := "ef3f7a6b4e121bfa9834d6fd9e9aeec4542bea62aab41b93bc1ac029c7ac514b", func := "bitemporal/bitemporallaw04.StepsLevels", spec := "stepsLevels", unfollowed := true, recurses := true, apart := false }
def StepsLevelsSaid : Prop := stepsLevelsRow.holds Try.pinned (OpenSpec.ofChange stepsLevelsSpec)

/-- ITS FALSE NEIGHBOUR: 'it returns false'. Refute it at one input. -/
def stepsLevelsWrong : ChangeSpec := { name := "stepsLevels", fn := fun _ => fun
  | [d1, d2] => { results := [.lit (.bool false)], args := [d1, d2] }
  | _ => none }
def StepsLevelsWrongFalsely : Prop := stepsLevelsRow.holds Try.pinned (OpenSpec.ofChange stepsLevelsWrong)

/-- 'bitemporallaw04.StepsRebuilt': WHATEVER THE INPUT: true; the input reads as it did. -/
def stepsRebuiltSpec : ChangeSpec := { name := "stepsRebuilt", fn := fun _ => fun
  | [d] => { results := [.lit (.bool true)], args := [d] }
  | _ => none }
def stepsRebuiltRow : OpenClaim := { program := "ytllenmkmompjpaa", sum := "ef3f7a6b4e121bfa9834d6fd9e9aeec4542bea62aab41b93bc1ac029c7ac514b", func := "bitemporal/bitemporallaw04.StepsRebuilt", spec := "stepsRebuilt", unfollowed := true, recurses := true, apart := false }
def StepsRebuiltSaid : Prop := stepsRebuiltRow.holds Try.pinned (OpenSpec.ofChange stepsRebuiltSpec)

/-- ITS FALSE NEIGHBOUR: 'it returns false'. Refute it at one input. -/
def stepsRebuiltWrong : ChangeSpec := { name := "stepsRebuilt", fn := fun _ => fun
  | [d] => { results := [.lit (.bool false)], args := [d] }
  | _ => none }
def StepsRebuiltWrongFalsely : Prop := stepsRebuiltRow.holds Try.pinned (OpenSpec.ofChange stepsRebuiltWrong)

/-- 'bitemporallaw04.StepsLayers': WHATEVER THE INPUT: true; the input reads as it did. -/
def stepsLayersSpec : ChangeSpec := { name := "stepsLayers", fn := fun _ => fun
  | [d1, d2] => { results := [.lit (.bool true)], args := [d1, d2] }
  | _ => none }
def stepsLayersRow : OpenClaim := { program := "ytllenmkmompjpaa", sum := "ef3f7a6b4e121bfa9834d6fd9e9aeec4542bea62aab41b93bc1ac029c7ac514b", func := "bitemporal/bitemporallaw04.StepsLayers", spec := "stepsLayers", unfollowed := true, recurses := true, apart := false }
def StepsLayersSaid : Prop := stepsLayersRow.holds Try.pinned (OpenSpec.ofChange stepsLayersSpec)

/-- ITS FALSE NEIGHBOUR: 'it returns false'. Refute it at one input. -/
def stepsLayersWrong : ChangeSpec := { name := "stepsLayers", fn := fun _ => fun
  | [d1, d2] => { results := [.lit (.bool false)], args := [d1, d2] }
  | _ => none }
def StepsLayersWrongFalsely : Prop := stepsLayersRow.holds Try.pinned (OpenSpec.ofChange stepsLayersWrong)

/-- 'bitemporallaw04.StepsPieces': WHATEVER THE INPUT: true; the input reads as it did. -/
def stepsPiecesSpec : ChangeSpec := { name := "stepsPieces", fn := fun _ => fun
  | [d1, d2] => { results := [.lit (.bool true)], args := [d1, d2] }
  | _ => none }
def stepsPiecesRow : OpenClaim := { program := "ytllenmkmompjpaa", sum := "ef3f7a6b4e121bfa9834d6fd9e9aeec4542bea62aab41b93bc1ac029c7ac514b", func := "bitemporal/bitemporallaw04.StepsPieces", spec := "stepsPieces", unfollowed := true, recurses := true, apart := false }
def StepsPiecesSaid : Prop := stepsPiecesRow.holds Try.pinned (OpenSpec.ofChange stepsPiecesSpec)

/-- ITS FALSE NEIGHBOUR: 'it returns false'. Refute it at one input. -/
def stepsPiecesWrong : ChangeSpec := { name := "stepsPieces", fn := fun _ => fun
  | [d1, d2] => { results := [.lit (.bool false)], args := [d1, d2] }
  | _ => none }
def StepsPiecesWrongFalsely : Prop := stepsPiecesRow.holds Try.pinned (OpenSpec.ofChange stepsPiecesWrong)

/-- 'bitemporallaw04.StepsCombines': WHATEVER THE INPUT: true; the input reads as it did. -/
def stepsCombinesSpec : ChangeSpec := { name := "stepsCombines", fn := fun _ => fun
  | [d1, d2] => { results := [.lit (.bool true)], args := [d1, d2] }
  | _ => none }
def stepsCombinesRow : OpenClaim := { program := "ytllenmkmompjpaa", sum := "ef3f7a6b4e121bfa9834d6fd9e9aeec4542bea62aab41b93bc1ac029c7ac514b", func := "bitemporal/bitemporallaw04.StepsCombines", spec := "stepsCombines", unfollowed := true, recurses := true, apart := false }
def StepsCombinesSaid : Prop := stepsCombinesRow.holds Try.pinned (OpenSpec.ofChange stepsCombinesSpec)

/-- ITS FALSE NEIGHBOUR: 'it returns false'. Refute it at one input. -/
def stepsCombinesWrong : ChangeSpec := { name := "stepsCombines", fn := fun _ => fun
  | [d1, d2] => { results := [.lit (.bool false)], args := [d1, d2] }
  | _ => none }
def StepsCombinesWrongFalsely : Prop := stepsCombinesRow.holds Try.pinned (OpenSpec.ofChange stepsCombinesWrong)

/-- 'bitemporallaw04.StepsPoints': WHATEVER THE INPUT: true; the input reads as it did. -/
def stepsPointsSpec : ChangeSpec := { name := "stepsPoints", fn := fun _ => fun
  | [d1, d2, d3] => { results := [.lit (.bool true)], args := [d1, d2, d3] }
  | _ => none }
def stepsPointsRow : OpenClaim := { program := "ytllenmkmompjpaa", sum := "ef3f7a6b4e121bfa9834d6fd9e9aeec4542bea62aab41b93bc1ac029c7ac514b", func := "bitemporal/bitemporallaw04.StepsPoints", spec := "stepsPoints", unfollowed := true, recurses := true, apart := false }
def StepsPointsSaid : Prop := stepsPointsRow.holds Try.pinned (OpenSpec.ofChange stepsPointsSpec)

/-- ITS FALSE NEIGHBOUR: 'it returns false'. Refute it at one input. -/
def stepsPointsWrong : ChangeSpec := { name := "stepsPoints", fn := fun _ => fun
  | [d1, d2, d3] => { results := [.lit (.bool false)], args := [d1, d2, d3] }
  | _ => none }
def StepsPointsWrongFalsely : Prop := stepsPointsRow.holds Try.pinned (OpenSpec.ofChange stepsPointsWrong)

/-- 'bitemporallaw04.StepsTells': WHATEVER THE INPUT: true; the input reads as it did. -/
def stepsTellsSpec : ChangeSpec := { name := "stepsTells", fn := fun _ => fun
  | [d1, d2] => { results := [.lit (.bool true)], args := [d1, d2] }
  | _ => none }
def stepsTellsRow : OpenClaim := { program := "ytllenmkmompjpaa", sum := "ef3f7a6b4e121bfa9834d6fd9e9aeec4542bea62aab41b93bc1ac029c7ac514b", func := "bitemporal/bitemporallaw04.StepsTells", spec := "stepsTells", unfollowed := true, recurses := true, apart := false }
def StepsTellsSaid : Prop := stepsTellsRow.holds Try.pinned (OpenSpec.ofChange stepsTellsSpec)

/-- ITS FALSE NEIGHBOUR: 'it returns false'. Refute it at one input. -/
def stepsTellsWrong : ChangeSpec := { name := "stepsTells", fn := fun _ => fun
  | [d1, d2] => { results := [.lit (.bool false)], args := [d1, d2] }
  | _ => none }
def StepsTellsWrongFalsely : Prop := stepsTellsRow.holds Try.pinned (OpenSpec.ofChange stepsTellsWrong)

/- THE SECOND FORM. 'bulk': how many values and letters a reading holds, each counted each time it is reached (what is shared counts as often as it is met; a slice's spare places count too). A statement '..UptoSaid' is the law's where the arguments, and the package variables that the reading takes, are together of bulk at most 1048576: NARROWER than '..Said'. Prove '..Said' where nothing that the law and all that it calls make is longer than what came in: it says more and counts as full. Else prove '..UptoSaid'. A law counts once. -/
mutual
def uptoBulk {H : Type} : DataW H → Nat
  | .lit (.string bytes) => bytes.length + 1
  | .lit _ => 1
  | .nil => 1
  | .ptr d => uptoBulk d + 1
  | .slice elems spare => uptoBulkAll elems + uptoBulkAll spare + 1
  | .agg parts => uptoBulkAll parts + 1
  | .iface _ d => uptoBulk d + 1
  | .map entries => uptoBulkEntries entries + 1
  | .held _ => 1
def uptoBulkAll {H : Type} : List (DataW H) → Nat
  | [] => 0
  | d :: r => uptoBulk d + uptoBulkAll r
def uptoBulkEntries {H : Type} : List (Lit × DataW H) → Nat
  | [] => 0
  | x :: r => uptoBulkEntry x + uptoBulkEntries r
def uptoBulkEntry {H : Type} : Lit × DataW H → Nat
  | (.string bytes, d) => bytes.length + uptoBulk d + 1
  | (_, d) => uptoBulk d + 1
 end
def uptoSmall : (H : Type) → List (DataW H) → Bool := fun _ ds => decide (uptoBulkAll ds ≤ 1048576)
def OpenSpec.upto (s : _root_.Go.ChangeSpec) : _root_.Go.OpenSpec := { _root_.Go.OpenSpec.ofChange s with cond := some uptoSmall }

/-- 'bitemporallaw04.StepsOf', WHERE WHAT IT READS IS OF BULK AT MOST 1048576: true; the input reads as it did. -/
def stepsOfUptoRow : OpenClaim := { program := "ytllenmkmompjpaa", sum := "ef3f7a6b4e121bfa9834d6fd9e9aeec4542bea62aab41b93bc1ac029c7ac514b", func := "bitemporal/bitemporallaw04.StepsOf", spec := "stepsOf", unfollowed := true, recurses := true, apart := false, narrowed := true }
def StepsOfUptoSaid : Prop := stepsOfUptoRow.holds Try.pinned (OpenSpec.upto stepsOfSpec)

/-- 'bitemporallaw04.StepsLevels', WHERE WHAT IT READS IS OF BULK AT MOST 1048576: true; the input reads as it did. -/
def stepsLevelsUptoRow : OpenClaim := { program := "ytllenmkmompjpaa", sum := "ef3f7a6b4e121bfa9834d6fd9e9aeec4542bea62aab41b93bc1ac029c7ac514b", func := "bitemporal/bitemporallaw04.StepsLevels", spec := "stepsLevels", unfollowed := true, recurses := true, apart := false, narrowed := true }
def StepsLevelsUptoSaid : Prop := stepsLevelsUptoRow.holds Try.pinned (OpenSpec.upto stepsLevelsSpec)

/-- 'bitemporallaw04.StepsRebuilt', WHERE WHAT IT READS IS OF BULK AT MOST 1048576: true; the input reads as it did. -/
def stepsRebuiltUptoRow : OpenClaim := { program := "ytllenmkmompjpaa", sum := "ef3f7a6b4e121bfa9834d6fd9e9aeec4542bea62aab41b93bc1ac029c7ac514b", func := "bitemporal/bitemporallaw04.StepsRebuilt", spec := "stepsRebuilt", unfollowed := true, recurses := true, apart := false, narrowed := true }
def StepsRebuiltUptoSaid : Prop := stepsRebuiltUptoRow.holds Try.pinned (OpenSpec.upto stepsRebuiltSpec)

/-- 'bitemporallaw04.StepsLayers', WHERE WHAT IT READS IS OF BULK AT MOST 1048576: true; the input reads as it did. -/
def stepsLayersUptoRow : OpenClaim := { program := "ytllenmkmompjpaa", sum := "ef3f7a6b4e121bfa9834d6fd9e9aeec4542bea62aab41b93bc1ac029c7ac514b", func := "bitemporal/bitemporallaw04.StepsLayers", spec := "stepsLayers", unfollowed := true, recurses := true, apart := false, narrowed := true }
def StepsLayersUptoSaid : Prop := stepsLayersUptoRow.holds Try.pinned (OpenSpec.upto stepsLayersSpec)

/-- 'bitemporallaw04.StepsPieces', WHERE WHAT IT READS IS OF BULK AT MOST 1048576: true; the input reads as it did. -/
def stepsPiecesUptoRow : OpenClaim := { program := "ytllenmkmompjpaa", sum := "ef3f7a6b4e121bfa9834d6fd9e9aeec4542bea62aab41b93bc1ac029c7ac514b", func := "bitemporal/bitemporallaw04.StepsPieces", spec := "stepsPieces", unfollowed := true, recurses := true, apart := false, narrowed := true }
def StepsPiecesUptoSaid : Prop := stepsPiecesUptoRow.holds Try.pinned (OpenSpec.upto stepsPiecesSpec)

/-- 'bitemporallaw04.StepsCombines', WHERE WHAT IT READS IS OF BULK AT MOST 1048576: true; the input reads as it did. -/
def stepsCombinesUptoRow : OpenClaim := { program := "ytllenmkmompjpaa", sum := "ef3f7a6b4e121bfa9834d6fd9e9aeec4542bea62aab41b93bc1ac029c7ac514b", func := "bitemporal/bitemporallaw04.StepsCombines", spec := "stepsCombines", unfollowed := true, recurses := true, apart := false, narrowed := true }
def StepsCombinesUptoSaid : Prop := stepsCombinesUptoRow.holds Try.pinned (OpenSpec.upto stepsCombinesSpec)

/-- 'bitemporallaw04.StepsPoints', WHERE WHAT IT READS IS OF BULK AT MOST 1048576: true; the input reads as it did. -/
def stepsPointsUptoRow : OpenClaim := { program := "ytllenmkmompjpaa", sum := "ef3f7a6b4e121bfa9834d6fd9e9aeec4542bea62aab41b93bc1ac029c7ac514b", func := "bitemporal/bitemporallaw04.StepsPoints", spec := "stepsPoints", unfollowed := true, recurses := true, apart := false, narrowed := true }
def StepsPointsUptoSaid : Prop := stepsPointsUptoRow.holds Try.pinned (OpenSpec.upto stepsPointsSpec)

/-- 'bitemporallaw04.StepsTells', WHERE WHAT IT READS IS OF BULK AT MOST 1048576: true; the input reads as it did. -/
def stepsTellsUptoRow : OpenClaim := { program := "ytllenmkmompjpaa", sum := "ef3f7a6b4e121bfa9834d6fd9e9aeec4542bea62aab41b93bc1ac029c7ac514b", func := "bitemporal/bitemporallaw04.StepsTells", spec := "stepsTells", unfollowed := true, recurses := true, apart := false, narrowed := true }
def StepsTellsUptoSaid : Prop := stepsTellsUptoRow.holds Try.pinned (OpenSpec.upto stepsTellsSpec)

end Rows
end Go.Proofs.Ytllenmkmompjpaa
