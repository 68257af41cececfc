/-
  DERIVED. GIVEN WITH THE SEED: THE CARDS: each row of YtdkmoemdipgikaaGreatDoorRows.lean that lists a variable, with what it lists TIED to the program's text (the seventh form; the later family's looks); each row that meets fmt, with fmt's text TOLD by the authors' own Lean function (tested against real Go, not proved from fmt's source: count such statements apart). THE CARD IS WHAT COUNTS. Prove the row's statement (the work); the ties are given (YtdkmoemdipgikaaGreatDoorTie.lean); close each card by the builder's one call (the guide's Derived/Test/ToyasCard.lean, 'card_holds'). Laid BY PROGRAM, IN A SANDBOX (cutbox-door.mjs). By AI agents, Wed Nov 11 2026. No macro, syntax, notation, axiom, sorry.
-/
import Derived.Test.YtdkmoemdipgikaaGreatDoorRows
import GoSem.ClaimSeven
namespace Go.Proofs.YtdkmoemdipgikaaGreatDoor
namespace Rows

/-- THE TIED CARD OF 'bitemporallaw45.ConstraintTables'. -/
def constraintTablesCard : Claim7 := { stood := { row := constraintTablesRow, standIns := [], harness := (true, "1c938770306346f59d247065ff326b7dc766be7b279804cdace8b0abae4b8985"), looks := false }, kinds := [], alts := [], laidByText := true, laidKinds := [.data, .data, .data], laidTests := true, laidLooks := .later }
def ConstraintTablesCardSaid : Prop := Claim7.holds Tryz.pinned (.plain (OpenSpec.ofChange constraintTablesSpec)) constraintTablesCard

/-- THE TIED CARD OF 'bitemporallaw45.ConstraintAll'. -/
def constraintAllCard : Claim7 := { stood := { row := constraintAllRow, standIns := [], harness := (true, "1c938770306346f59d247065ff326b7dc766be7b279804cdace8b0abae4b8985"), looks := false }, kinds := [], alts := [], laidByText := true, laidKinds := [.data, .data, .data], laidTests := true, laidLooks := .later }
def ConstraintAllCardSaid : Prop := Claim7.holds Tryz.pinned (.plain (OpenSpec.ofChange constraintAllSpec)) constraintAllCard

/-- THE TIED CARD OF 'bitemporallaw45.ConstraintInstants'. -/
def constraintInstantsCard : Claim7 := { stood := { row := constraintInstantsRow, standIns := [], harness := (true, "1c938770306346f59d247065ff326b7dc766be7b279804cdace8b0abae4b8985"), looks := false }, kinds := [], alts := [], laidByText := true, laidKinds := [.data, .data, .data], laidTests := true, laidLooks := .later }
def ConstraintInstantsCardSaid : Prop := Claim7.holds Tryz.pinned (.plain (OpenSpec.ofChange constraintInstantsSpec)) constraintInstantsCard

/-- THE TIED CARD OF 'bitemporallaw45.ConstraintSlices'. -/
def constraintSlicesCard : Claim7 := { stood := { row := constraintSlicesRow, standIns := [], harness := (true, "1c938770306346f59d247065ff326b7dc766be7b279804cdace8b0abae4b8985"), looks := false }, kinds := [], alts := [], laidByText := true, laidKinds := [.data, .data, .data], laidTests := true, laidLooks := .later }
def ConstraintSlicesCardSaid : Prop := Claim7.holds Tryz.pinned (.plain (OpenSpec.ofChange constraintSlicesSpec)) constraintSlicesCard

/-- THE TIED CARD OF 'bitemporallaw45.ConstraintForms'. -/
def constraintFormsCard : Claim7 := { stood := { row := constraintFormsRow, standIns := [], harness := (true, "1c938770306346f59d247065ff326b7dc766be7b279804cdace8b0abae4b8985"), looks := false }, kinds := [], alts := [], laidByText := true, laidKinds := [.data, .data, .data], laidTests := true, laidLooks := .later }
def ConstraintFormsCardSaid : Prop := Claim7.holds Tryz.pinned (.plain (OpenSpec.ofChange constraintFormsSpec)) constraintFormsCard

/-- THE SECOND FORM's CARD OF 'bitemporallaw45.ConstraintTables'. -/
def constraintTablesUptoCard : Claim7 := { stood := { row := constraintTablesUptoRow, standIns := [], harness := (true, "1c938770306346f59d247065ff326b7dc766be7b279804cdace8b0abae4b8985"), looks := false }, kinds := [], alts := [], laidByText := true, laidKinds := [.data, .data, .data], laidTests := true, laidLooks := .later }
def ConstraintTablesUptoCardSaid : Prop := Claim7.holds Tryz.pinned (.plain (OpenSpec.upto constraintTablesSpec)) constraintTablesUptoCard

/-- THE SECOND FORM's CARD OF 'bitemporallaw45.ConstraintAll'. -/
def constraintAllUptoCard : Claim7 := { stood := { row := constraintAllUptoRow, standIns := [], harness := (true, "1c938770306346f59d247065ff326b7dc766be7b279804cdace8b0abae4b8985"), looks := false }, kinds := [], alts := [], laidByText := true, laidKinds := [.data, .data, .data], laidTests := true, laidLooks := .later }
def ConstraintAllUptoCardSaid : Prop := Claim7.holds Tryz.pinned (.plain (OpenSpec.upto constraintAllSpec)) constraintAllUptoCard

/-- THE SECOND FORM's CARD OF 'bitemporallaw45.ConstraintInstants'. -/
def constraintInstantsUptoCard : Claim7 := { stood := { row := constraintInstantsUptoRow, standIns := [], harness := (true, "1c938770306346f59d247065ff326b7dc766be7b279804cdace8b0abae4b8985"), looks := false }, kinds := [], alts := [], laidByText := true, laidKinds := [.data, .data, .data], laidTests := true, laidLooks := .later }
def ConstraintInstantsUptoCardSaid : Prop := Claim7.holds Tryz.pinned (.plain (OpenSpec.upto constraintInstantsSpec)) constraintInstantsUptoCard

/-- THE SECOND FORM's CARD OF 'bitemporallaw45.ConstraintSlices'. -/
def constraintSlicesUptoCard : Claim7 := { stood := { row := constraintSlicesUptoRow, standIns := [], harness := (true, "1c938770306346f59d247065ff326b7dc766be7b279804cdace8b0abae4b8985"), looks := false }, kinds := [], alts := [], laidByText := true, laidKinds := [.data, .data, .data], laidTests := true, laidLooks := .later }
def ConstraintSlicesUptoCardSaid : Prop := Claim7.holds Tryz.pinned (.plain (OpenSpec.upto constraintSlicesSpec)) constraintSlicesUptoCard

/-- THE SECOND FORM's CARD OF 'bitemporallaw45.ConstraintForms'. -/
def constraintFormsUptoCard : Claim7 := { stood := { row := constraintFormsUptoRow, standIns := [], harness := (true, "1c938770306346f59d247065ff326b7dc766be7b279804cdace8b0abae4b8985"), looks := false }, kinds := [], alts := [], laidByText := true, laidKinds := [.data, .data, .data], laidTests := true, laidLooks := .later }
def ConstraintFormsUptoCardSaid : Prop := Claim7.holds Tryz.pinned (.plain (OpenSpec.upto constraintFormsSpec)) constraintFormsUptoCard
end Rows
end Go.Proofs.YtdkmoemdipgikaaGreatDoor
