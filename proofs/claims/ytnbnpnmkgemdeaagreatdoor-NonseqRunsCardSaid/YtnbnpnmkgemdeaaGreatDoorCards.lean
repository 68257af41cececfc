/-
  DERIVED. GIVEN WITH THE SEED: THE CARDS: each row of YtnbnpnmkgemdeaaGreatDoorRows.lean that lists a variable, with what it lists TIED to the program's text (the seventh form; the later family's looks); each row that meets fmt, with fmt's text TOLD by the authors' own Lean function (tested against real Go, not proved from fmt's source: count such statements apart). THE CARD IS WHAT COUNTS. Prove the row's statement (the work); the ties are given (YtnbnpnmkgemdeaaGreatDoorTie.lean); close each card by the builder's one call (the guide's Derived/Test/ToyasCard.lean, 'card_holds'). Laid BY PROGRAM, IN A SANDBOX (cutbox-door.mjs). By AI agents, Wed Nov 11 2026. No macro, syntax, notation, axiom, sorry.
-/
import Derived.Test.YtnbnpnmkgemdeaaGreatDoorRows
import GoSem.ClaimSeven
namespace Go.Proofs.YtnbnpnmkgemdeaaGreatDoor
namespace Rows

/-- THE TIED CARD OF 'bitemporallaw28.NonseqSelects'. -/
def nonseqSelectsCard : Claim7 := { stood := { row := nonseqSelectsRow, standIns := [], harness := (true, "58f3560f517e42c612def1b7ed448ef881ecbc625af66c1edb624d2ab35814da"), looks := false }, kinds := [], alts := [], laidByText := true, laidKinds := [.data, .data, .data], laidTests := true, laidLooks := .later }
def NonseqSelectsCardSaid : Prop := Claim7.holds Tryz.pinned (.plain (OpenSpec.ofChange nonseqSelectsSpec)) nonseqSelectsCard

/-- THE TIED CARD OF 'bitemporallaw28.NonseqRows'. -/
def nonseqRowsCard : Claim7 := { stood := { row := nonseqRowsRow, standIns := [], harness := (true, "58f3560f517e42c612def1b7ed448ef881ecbc625af66c1edb624d2ab35814da"), looks := false }, kinds := [], alts := [], laidByText := true, laidKinds := [.data, .data, .data], laidTests := true, laidLooks := .later }
def NonseqRowsCardSaid : Prop := Claim7.holds Tryz.pinned (.plain (OpenSpec.ofChange nonseqRowsSpec)) nonseqRowsCard

/-- THE TIED CARD OF 'bitemporallaw28.NonseqBeliefs'. -/
def nonseqBeliefsCard : Claim7 := { stood := { row := nonseqBeliefsRow, standIns := [], harness := (true, "58f3560f517e42c612def1b7ed448ef881ecbc625af66c1edb624d2ab35814da"), looks := false }, kinds := [], alts := [], laidByText := true, laidKinds := [.data, .data, .data], laidTests := true, laidLooks := .later }
def NonseqBeliefsCardSaid : Prop := Claim7.holds Tryz.pinned (.plain (OpenSpec.ofChange nonseqBeliefsSpec)) nonseqBeliefsCard

/-- THE TIED CARD OF 'bitemporallaw28.NonseqRanges'. -/
def nonseqRangesCard : Claim7 := { stood := { row := nonseqRangesRow, standIns := [], harness := (true, "58f3560f517e42c612def1b7ed448ef881ecbc625af66c1edb624d2ab35814da"), looks := false }, kinds := [], alts := [], laidByText := true, laidKinds := [.data, .data, .data], laidTests := true, laidLooks := .later }
def NonseqRangesCardSaid : Prop := Claim7.holds Tryz.pinned (.plain (OpenSpec.ofChange nonseqRangesSpec)) nonseqRangesCard

/-- THE TIED CARD OF 'bitemporallaw28.NonseqRelated'. -/
def nonseqRelatedCard : Claim7 := { stood := { row := nonseqRelatedRow, standIns := [], harness := (true, "58f3560f517e42c612def1b7ed448ef881ecbc625af66c1edb624d2ab35814da"), looks := false }, kinds := [], alts := [], laidByText := true, laidKinds := [.data, .data, .data], laidTests := true, laidLooks := .later }
def NonseqRelatedCardSaid : Prop := Claim7.holds Tryz.pinned (.plain (OpenSpec.ofChange nonseqRelatedSpec)) nonseqRelatedCard

/-- THE TIED CARD OF 'bitemporallaw28.NonseqRuns'. -/
def nonseqRunsCard : Claim7 := { stood := { row := nonseqRunsRow, standIns := [], harness := (true, "58f3560f517e42c612def1b7ed448ef881ecbc625af66c1edb624d2ab35814da"), looks := false }, kinds := [], alts := [], laidByText := true, laidKinds := [.data, .data, .data], laidTests := true, laidLooks := .later }
def NonseqRunsCardSaid : Prop := Claim7.holds Tryz.pinned (.plain (OpenSpec.ofChange nonseqRunsSpec)) nonseqRunsCard

/-- THE TIED CARD OF 'bitemporallaw28.NonseqMatches'. -/
def nonseqMatchesCard : Claim7 := { stood := { row := nonseqMatchesRow, standIns := [], harness := (true, "58f3560f517e42c612def1b7ed448ef881ecbc625af66c1edb624d2ab35814da"), looks := false }, kinds := [], alts := [], laidByText := true, laidKinds := [.data, .data, .data], laidTests := true, laidLooks := .later }
def NonseqMatchesCardSaid : Prop := Claim7.holds Tryz.pinned (.plain (OpenSpec.ofChange nonseqMatchesSpec)) nonseqMatchesCard

/-- THE SECOND FORM's CARD OF 'bitemporallaw28.NonseqSelects'. -/
def nonseqSelectsUptoCard : Claim7 := { stood := { row := nonseqSelectsUptoRow, standIns := [], harness := (true, "58f3560f517e42c612def1b7ed448ef881ecbc625af66c1edb624d2ab35814da"), looks := false }, kinds := [], alts := [], laidByText := true, laidKinds := [.data, .data, .data], laidTests := true, laidLooks := .later }
def NonseqSelectsUptoCardSaid : Prop := Claim7.holds Tryz.pinned (.plain (OpenSpec.upto nonseqSelectsSpec)) nonseqSelectsUptoCard

/-- THE SECOND FORM's CARD OF 'bitemporallaw28.NonseqRows'. -/
def nonseqRowsUptoCard : Claim7 := { stood := { row := nonseqRowsUptoRow, standIns := [], harness := (true, "58f3560f517e42c612def1b7ed448ef881ecbc625af66c1edb624d2ab35814da"), looks := false }, kinds := [], alts := [], laidByText := true, laidKinds := [.data, .data, .data], laidTests := true, laidLooks := .later }
def NonseqRowsUptoCardSaid : Prop := Claim7.holds Tryz.pinned (.plain (OpenSpec.upto nonseqRowsSpec)) nonseqRowsUptoCard

/-- THE SECOND FORM's CARD OF 'bitemporallaw28.NonseqBeliefs'. -/
def nonseqBeliefsUptoCard : Claim7 := { stood := { row := nonseqBeliefsUptoRow, standIns := [], harness := (true, "58f3560f517e42c612def1b7ed448ef881ecbc625af66c1edb624d2ab35814da"), looks := false }, kinds := [], alts := [], laidByText := true, laidKinds := [.data, .data, .data], laidTests := true, laidLooks := .later }
def NonseqBeliefsUptoCardSaid : Prop := Claim7.holds Tryz.pinned (.plain (OpenSpec.upto nonseqBeliefsSpec)) nonseqBeliefsUptoCard

/-- THE SECOND FORM's CARD OF 'bitemporallaw28.NonseqRanges'. -/
def nonseqRangesUptoCard : Claim7 := { stood := { row := nonseqRangesUptoRow, standIns := [], harness := (true, "58f3560f517e42c612def1b7ed448ef881ecbc625af66c1edb624d2ab35814da"), looks := false }, kinds := [], alts := [], laidByText := true, laidKinds := [.data, .data, .data], laidTests := true, laidLooks := .later }
def NonseqRangesUptoCardSaid : Prop := Claim7.holds Tryz.pinned (.plain (OpenSpec.upto nonseqRangesSpec)) nonseqRangesUptoCard

/-- THE SECOND FORM's CARD OF 'bitemporallaw28.NonseqRelated'. -/
def nonseqRelatedUptoCard : Claim7 := { stood := { row := nonseqRelatedUptoRow, standIns := [], harness := (true, "58f3560f517e42c612def1b7ed448ef881ecbc625af66c1edb624d2ab35814da"), looks := false }, kinds := [], alts := [], laidByText := true, laidKinds := [.data, .data, .data], laidTests := true, laidLooks := .later }
def NonseqRelatedUptoCardSaid : Prop := Claim7.holds Tryz.pinned (.plain (OpenSpec.upto nonseqRelatedSpec)) nonseqRelatedUptoCard

/-- THE SECOND FORM's CARD OF 'bitemporallaw28.NonseqRuns'. -/
def nonseqRunsUptoCard : Claim7 := { stood := { row := nonseqRunsUptoRow, standIns := [], harness := (true, "58f3560f517e42c612def1b7ed448ef881ecbc625af66c1edb624d2ab35814da"), looks := false }, kinds := [], alts := [], laidByText := true, laidKinds := [.data, .data, .data], laidTests := true, laidLooks := .later }
def NonseqRunsUptoCardSaid : Prop := Claim7.holds Tryz.pinned (.plain (OpenSpec.upto nonseqRunsSpec)) nonseqRunsUptoCard

/-- THE SECOND FORM's CARD OF 'bitemporallaw28.NonseqMatches'. -/
def nonseqMatchesUptoCard : Claim7 := { stood := { row := nonseqMatchesUptoRow, standIns := [], harness := (true, "58f3560f517e42c612def1b7ed448ef881ecbc625af66c1edb624d2ab35814da"), looks := false }, kinds := [], alts := [], laidByText := true, laidKinds := [.data, .data, .data], laidTests := true, laidLooks := .later }
def NonseqMatchesUptoCardSaid : Prop := Claim7.holds Tryz.pinned (.plain (OpenSpec.upto nonseqMatchesSpec)) nonseqMatchesUptoCard
end Rows
end Go.Proofs.YtnbnpnmkgemdeaaGreatDoor
