/-
  DERIVED. GIVEN WITH THE SEED: THE CARDS: each row of YtlcceppoloaecaaGreatDoorRows.lean that lists a variable, with what it lists TIED to the program's text (the seventh form; the later family's looks); each row that meets fmt, with fmt's text TOLD by the authors' own Lean function (tested against real Go, not proved from fmt's source: count such statements apart). THE CARD IS WHAT COUNTS. Prove the row's statement (the work); the ties are given (YtlcceppoloaecaaGreatDoorTie.lean); close each card by the builder's one call (the guide's Derived/Test/ToyasCard.lean, 'card_holds'). Laid BY PROGRAM, IN A SANDBOX (cutbox-door.mjs). By AI agents, Wed Nov 11 2026. No macro, syntax, notation, axiom, sorry.
-/
import Derived.Test.YtlcceppoloaecaaGreatDoorRows
import GoSem.ClaimSeven
namespace Go.Proofs.YtlcceppoloaecaaGreatDoor
namespace Rows

/-- THE TIED CARD OF 'bitemporallaw24.TjoinPairs'. -/
def tjoinPairsCard : Claim7 := { stood := { row := tjoinPairsRow, standIns := [], harness := (true, "7f5b8fa707f7d2afc8d56363dc44e6a58cba0e1e9264239b5f41b414bcf8add7"), looks := false }, kinds := [], alts := [], laidByText := true, laidKinds := [.data, .data, .data], laidTests := true, laidLooks := .later }
def TjoinPairsCardSaid : Prop := Claim7.holds Tryz.pinned (.plain (OpenSpec.ofChange tjoinPairsSpec)) tjoinPairsCard

/-- THE TIED CARD OF 'bitemporallaw24.TjoinJoins'. -/
def tjoinJoinsCard : Claim7 := { stood := { row := tjoinJoinsRow, standIns := [], harness := (true, "7f5b8fa707f7d2afc8d56363dc44e6a58cba0e1e9264239b5f41b414bcf8add7"), looks := false }, kinds := [], alts := [], laidByText := true, laidKinds := [.data, .data, .data], laidTests := true, laidLooks := .later }
def TjoinJoinsCardSaid : Prop := Claim7.holds Tryz.pinned (.plain (OpenSpec.ofChange tjoinJoinsSpec)) tjoinJoinsCard

/-- THE TIED CARD OF 'bitemporallaw24.TjoinSemi'. -/
def tjoinSemiCard : Claim7 := { stood := { row := tjoinSemiRow, standIns := [], harness := (true, "7f5b8fa707f7d2afc8d56363dc44e6a58cba0e1e9264239b5f41b414bcf8add7"), looks := false }, kinds := [], alts := [], laidByText := true, laidKinds := [.data, .data, .data], laidTests := true, laidLooks := .later }
def TjoinSemiCardSaid : Prop := Claim7.holds Tryz.pinned (.plain (OpenSpec.ofChange tjoinSemiSpec)) tjoinSemiCard

/-- THE TIED CARD OF 'bitemporallaw24.TjoinSnapshots'. -/
def tjoinSnapshotsCard : Claim7 := { stood := { row := tjoinSnapshotsRow, standIns := [], harness := (true, "7f5b8fa707f7d2afc8d56363dc44e6a58cba0e1e9264239b5f41b414bcf8add7"), looks := false }, kinds := [], alts := [], laidByText := true, laidKinds := [.data, .data, .data], laidTests := true, laidLooks := .later }
def TjoinSnapshotsCardSaid : Prop := Claim7.holds Tryz.pinned (.plain (OpenSpec.ofChange tjoinSnapshotsSpec)) tjoinSnapshotsCard

/-- THE TIED CARD OF 'bitemporallaw24.TjoinHalves'. -/
def tjoinHalvesCard : Claim7 := { stood := { row := tjoinHalvesRow, standIns := [], harness := (true, "7f5b8fa707f7d2afc8d56363dc44e6a58cba0e1e9264239b5f41b414bcf8add7"), looks := false }, kinds := [], alts := [], laidByText := true, laidKinds := [.data, .data, .data], laidTests := true, laidLooks := .later }
def TjoinHalvesCardSaid : Prop := Claim7.holds Tryz.pinned (.plain (OpenSpec.ofChange tjoinHalvesSpec)) tjoinHalvesCard

/-- THE TIED CARD OF 'bitemporallaw24.TjoinRelations'. -/
def tjoinRelationsCard : Claim7 := { stood := { row := tjoinRelationsRow, standIns := [], harness := (true, "7f5b8fa707f7d2afc8d56363dc44e6a58cba0e1e9264239b5f41b414bcf8add7"), looks := false }, kinds := [], alts := [], laidByText := true, laidKinds := [.data, .data, .data], laidTests := true, laidLooks := .later }
def TjoinRelationsCardSaid : Prop := Claim7.holds Tryz.pinned (.plain (OpenSpec.ofChange tjoinRelationsSpec)) tjoinRelationsCard

/-- THE TIED CARD OF 'bitemporallaw24.TjoinExchange'. -/
def tjoinExchangeCard : Claim7 := { stood := { row := tjoinExchangeRow, standIns := [], harness := (true, "7f5b8fa707f7d2afc8d56363dc44e6a58cba0e1e9264239b5f41b414bcf8add7"), looks := false }, kinds := [], alts := [], laidByText := true, laidKinds := [.data, .data, .data], laidTests := true, laidLooks := .later }
def TjoinExchangeCardSaid : Prop := Claim7.holds Tryz.pinned (.plain (OpenSpec.ofChange tjoinExchangeSpec)) tjoinExchangeCard

/-- THE SECOND FORM's CARD OF 'bitemporallaw24.TjoinPairs'. -/
def tjoinPairsUptoCard : Claim7 := { stood := { row := tjoinPairsUptoRow, standIns := [], harness := (true, "7f5b8fa707f7d2afc8d56363dc44e6a58cba0e1e9264239b5f41b414bcf8add7"), looks := false }, kinds := [], alts := [], laidByText := true, laidKinds := [.data, .data, .data], laidTests := true, laidLooks := .later }
def TjoinPairsUptoCardSaid : Prop := Claim7.holds Tryz.pinned (.plain (OpenSpec.upto tjoinPairsSpec)) tjoinPairsUptoCard

/-- THE SECOND FORM's CARD OF 'bitemporallaw24.TjoinJoins'. -/
def tjoinJoinsUptoCard : Claim7 := { stood := { row := tjoinJoinsUptoRow, standIns := [], harness := (true, "7f5b8fa707f7d2afc8d56363dc44e6a58cba0e1e9264239b5f41b414bcf8add7"), looks := false }, kinds := [], alts := [], laidByText := true, laidKinds := [.data, .data, .data], laidTests := true, laidLooks := .later }
def TjoinJoinsUptoCardSaid : Prop := Claim7.holds Tryz.pinned (.plain (OpenSpec.upto tjoinJoinsSpec)) tjoinJoinsUptoCard

/-- THE SECOND FORM's CARD OF 'bitemporallaw24.TjoinSemi'. -/
def tjoinSemiUptoCard : Claim7 := { stood := { row := tjoinSemiUptoRow, standIns := [], harness := (true, "7f5b8fa707f7d2afc8d56363dc44e6a58cba0e1e9264239b5f41b414bcf8add7"), looks := false }, kinds := [], alts := [], laidByText := true, laidKinds := [.data, .data, .data], laidTests := true, laidLooks := .later }
def TjoinSemiUptoCardSaid : Prop := Claim7.holds Tryz.pinned (.plain (OpenSpec.upto tjoinSemiSpec)) tjoinSemiUptoCard

/-- THE SECOND FORM's CARD OF 'bitemporallaw24.TjoinSnapshots'. -/
def tjoinSnapshotsUptoCard : Claim7 := { stood := { row := tjoinSnapshotsUptoRow, standIns := [], harness := (true, "7f5b8fa707f7d2afc8d56363dc44e6a58cba0e1e9264239b5f41b414bcf8add7"), looks := false }, kinds := [], alts := [], laidByText := true, laidKinds := [.data, .data, .data], laidTests := true, laidLooks := .later }
def TjoinSnapshotsUptoCardSaid : Prop := Claim7.holds Tryz.pinned (.plain (OpenSpec.upto tjoinSnapshotsSpec)) tjoinSnapshotsUptoCard

/-- THE SECOND FORM's CARD OF 'bitemporallaw24.TjoinHalves'. -/
def tjoinHalvesUptoCard : Claim7 := { stood := { row := tjoinHalvesUptoRow, standIns := [], harness := (true, "7f5b8fa707f7d2afc8d56363dc44e6a58cba0e1e9264239b5f41b414bcf8add7"), looks := false }, kinds := [], alts := [], laidByText := true, laidKinds := [.data, .data, .data], laidTests := true, laidLooks := .later }
def TjoinHalvesUptoCardSaid : Prop := Claim7.holds Tryz.pinned (.plain (OpenSpec.upto tjoinHalvesSpec)) tjoinHalvesUptoCard

/-- THE SECOND FORM's CARD OF 'bitemporallaw24.TjoinRelations'. -/
def tjoinRelationsUptoCard : Claim7 := { stood := { row := tjoinRelationsUptoRow, standIns := [], harness := (true, "7f5b8fa707f7d2afc8d56363dc44e6a58cba0e1e9264239b5f41b414bcf8add7"), looks := false }, kinds := [], alts := [], laidByText := true, laidKinds := [.data, .data, .data], laidTests := true, laidLooks := .later }
def TjoinRelationsUptoCardSaid : Prop := Claim7.holds Tryz.pinned (.plain (OpenSpec.upto tjoinRelationsSpec)) tjoinRelationsUptoCard

/-- THE SECOND FORM's CARD OF 'bitemporallaw24.TjoinExchange'. -/
def tjoinExchangeUptoCard : Claim7 := { stood := { row := tjoinExchangeUptoRow, standIns := [], harness := (true, "7f5b8fa707f7d2afc8d56363dc44e6a58cba0e1e9264239b5f41b414bcf8add7"), looks := false }, kinds := [], alts := [], laidByText := true, laidKinds := [.data, .data, .data], laidTests := true, laidLooks := .later }
def TjoinExchangeUptoCardSaid : Prop := Claim7.holds Tryz.pinned (.plain (OpenSpec.upto tjoinExchangeSpec)) tjoinExchangeUptoCard
end Rows
end Go.Proofs.YtlcceppoloaecaaGreatDoor
