/- Parts of the proof, joined. No condition. -/
import Derived.Test.YtlcceppoloaecaaGreatDoorKAA
import Derived.Test.YtlcceppoloaecaaGreatDoorKBP
set_option linter.unusedSimpArgs false
set_option linter.unusedVariables false
namespace Go.Proofs.YtlcceppoloaecaaGreatDoor.Aw
open Go.RowKit Go.MapKept
set_option maxRecDepth 100000
def asd:List PV:=[.agg [.lst [[.int .i64 1]], .lst [[.lst [[.int .i64 1, .int .i64 1, .str ⟨#[]⟩]], .int .i64 0, .int .i64 6],[.lst [[.int .i64 1, .int .i64 2, .str ⟨#[]⟩]], .int .i64 3, .int .i64 9]]], .agg [.lst [[.int .i64 1]], .lst [[.lst [[.int .i64 1, .int .i64 1, .str ⟨#[]⟩]], .int .i64 4, .int .i64 8],[.lst [[.int .i64 1, .int .i64 1, .str ⟨#[]⟩]], .int .i64 5, .int .i64 7]]], .agg [.int .i64 7, .int .i64 0, .int .i64 0, .int .i64 0, .str ⟨#[]⟩, .str ⟨#[]⟩, .lst [[.int .i64 2, .int .i64 0, .int .i64 0, .int .i64 0, .str ⟨#[]⟩, .str ⟨#[]⟩, .lst []],[.int .i64 2, .int .i64 1, .int .i64 0, .int .i64 0, .str ⟨#[]⟩, .str ⟨#[]⟩, .lst []]]]]
def rsd:CV := .val (.agg [.lst [[.int .i64 1],[.int .i64 1]], .lst [[.lst [[.int .i64 1, .int .i64 1, .str ⟨#[]⟩],[.int .i64 0, .int .i64 0, .str ⟨#[]⟩]], .int .i64 0, .int .i64 4],[.lst [[.int .i64 1, .int .i64 1, .str ⟨#[]⟩],[.int .i64 1, .int .i64 1, .str ⟨#[]⟩]], .int .i64 4, .int .i64 6],[.lst [[.int .i64 1, .int .i64 1, .str ⟨#[]⟩],[.int .i64 1, .int .i64 1, .str ⟨#[]⟩]], .int .i64 5, .int .i64 6],[.lst [[.int .i64 1, .int .i64 2, .str ⟨#[]⟩],[.int .i64 0, .int .i64 0, .str ⟨#[]⟩]], .int .i64 3, .int .i64 9]]])
theorem apg:(evF cx 64).1 20 asd=some rsd:=by kernel_rfl
theorem aog:Pure Tryz.prog 20 asd rsd:=(oz Hd 64).1 _ _ _ apg
end Go.Proofs.YtlcceppoloaecaaGreatDoor.Aw
