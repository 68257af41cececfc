/-
  DERIVED. GIVEN WITH THE SEED: THE CARDS: each row of YtngehibfdjdejaaGreatDoorRows.lean that lists a variable, with what it lists TIED to the program's text (the seventh form; the later family's looks); each row that meets fmt, with fmt's text TOLD by the authors' own Lean function (tested against real Go, not proved from fmt's source: count such statements apart). THE CARD IS WHAT COUNTS. Prove the row's statement (the work); the ties are given (YtngehibfdjdejaaGreatDoorTie.lean); close each card by the builder's one call (the guide's Derived/Test/ToyasCard.lean, 'card_holds'). Laid BY PROGRAM, IN A SANDBOX (cutbox-door.mjs). By AI agents, Wed Nov 11 2026. No macro, syntax, notation, axiom, sorry.
-/
import Derived.Test.YtngehibfdjdejaaGreatDoorRows
import GoSem.ClaimSeven
namespace Go.Proofs.YtngehibfdjdejaaGreatDoor
namespace Rows

/-- THE TIED CARD OF 'bitemporallaw45.ConstraintFirst'. -/
def constraintFirstCard : Claim7 := { stood := { row := constraintFirstRow, standIns := [], harness := (true, "3cf148eea3a673655705b5a4eb00c17eccf1b809ca528142e54c2fe7e0b4a1a6"), looks := false }, kinds := [], alts := [], laidByText := true, laidKinds := [.data, .data, .data], laidTests := true, laidLooks := .later }
def ConstraintFirstCardSaid : Prop := Claim7.holds Tryz.pinned (.plain (OpenSpec.ofChange constraintFirstSpec)) constraintFirstCard

/-- THE SECOND FORM's CARD OF 'bitemporallaw45.ConstraintFirst'. -/
def constraintFirstUptoCard : Claim7 := { stood := { row := constraintFirstUptoRow, standIns := [], harness := (true, "3cf148eea3a673655705b5a4eb00c17eccf1b809ca528142e54c2fe7e0b4a1a6"), looks := false }, kinds := [], alts := [], laidByText := true, laidKinds := [.data, .data, .data], laidTests := true, laidLooks := .later }
def ConstraintFirstUptoCardSaid : Prop := Claim7.holds Tryz.pinned (.plain (OpenSpec.upto constraintFirstSpec)) constraintFirstUptoCard
end Rows
end Go.Proofs.YtngehibfdjdejaaGreatDoor
