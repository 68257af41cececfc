/-
  NARROWER THAN 'FOR EVERY INPUT', by the rows' own cells (each row's printed sentence says how): NonseqSelects: laid · NonseqRows: laid · NonseqBeliefs: laid · NonseqRanges: laid · NonseqRelated: laid · NonseqRuns: loops, laid · NonseqMatches: laid.
  DERIVED. THE GIVEN ROWS OF THIS SEAT. 7 by the template 'for every input the law returns true; each argument reads behind the call as it read before'; 0 by the template 'total and deterministic' (their statements: YtnbnpnmkgemdeaaGreatDoorTotals.lean).
  GIVEN WITH THE SEED: the statements are not yours to turn. If you find one false, say at which input.
  Laid BY PROGRAM, IN A SANDBOX (cutbox-rows.mjs): the forced cells as the released guide's own fill.sh prints them over the translation bbb76cdc7a126f20… (all of the seat's roots in one cut). By AI agents, Wed Nov 11 2026. No macro, syntax, notation, axiom, sorry.
-/
import Derived.Test.YtnbnpnmkgemdeaaGreatDoorChecked
import GoSem.Claim
import GoSem.ClaimJoined
import GoSem.ClaimMapViews
import Derived.JoinedTies
import Derived.KernelRfl
namespace Go.Proofs.YtnbnpnmkgemdeaaGreatDoor
/- THE CELL 'sum', in the pinned program and in every row, IS THE sha256 OF THE DUMP (.gsa) THAT YtnbnpnmkgemdeaaGreatDoorProg.lean LOADS. Nothing in Lean hashes anything: it is a label: what it is worth is what the hold of that sum in a sandbox is worth. -/
noncomputable def Tryz.pinned : Pinned := { name := "ytnbnpnmkgemdeaagreatdoor", sum := "bbb76cdc7a126f204d1fec23f93620bb20edb7dde62f4899e867751fd8e4cbb4", checked := Tryz.checked }
namespace Rows
def none {H : Type} : Left H := { results := [], args := [] }

/- WHAT THE LISTED PACKAGE-LEVEL VARIABLES READ AS WHEN THE CALL BEGINS. Each datum BY PROGRAM (the guide's laid-datum.mjs) off the statement by which the dump's own 'gosem.cut.vars' lays the variable. In a bare row this is a premise. The card (YtnbnpnmkgemdeaaGreatDoorCards.lean) ties it to the program's text. -/
def laid_math_bits_deBruijn32tab {H : Type} : DataW H := .agg [.lit (.int .u8 0), .lit (.int .u8 1), .lit (.int .u8 28), .lit (.int .u8 2), .lit (.int .u8 29), .lit (.int .u8 14), .lit (.int .u8 24), .lit (.int .u8 3), .lit (.int .u8 30), .lit (.int .u8 22), .lit (.int .u8 20), .lit (.int .u8 15), .lit (.int .u8 25), .lit (.int .u8 17), .lit (.int .u8 4), .lit (.int .u8 8), .lit (.int .u8 31), .lit (.int .u8 27), .lit (.int .u8 13), .lit (.int .u8 23), .lit (.int .u8 21), .lit (.int .u8 19), .lit (.int .u8 16), .lit (.int .u8 7), .lit (.int .u8 26), .lit (.int .u8 12), .lit (.int .u8 18), .lit (.int .u8 6), .lit (.int .u8 11), .lit (.int .u8 5), .lit (.int .u8 10), .lit (.int .u8 9)]
def laid_math_bits_deBruijn64tab {H : Type} : DataW H := .agg [.lit (.int .u8 0), .lit (.int .u8 1), .lit (.int .u8 56), .lit (.int .u8 2), .lit (.int .u8 57), .lit (.int .u8 49), .lit (.int .u8 28), .lit (.int .u8 3), .lit (.int .u8 61), .lit (.int .u8 58), .lit (.int .u8 42), .lit (.int .u8 50), .lit (.int .u8 38), .lit (.int .u8 29), .lit (.int .u8 17), .lit (.int .u8 4), .lit (.int .u8 62), .lit (.int .u8 47), .lit (.int .u8 59), .lit (.int .u8 36), .lit (.int .u8 45), .lit (.int .u8 43), .lit (.int .u8 51), .lit (.int .u8 22), .lit (.int .u8 53), .lit (.int .u8 39), .lit (.int .u8 33), .lit (.int .u8 30), .lit (.int .u8 24), .lit (.int .u8 18), .lit (.int .u8 12), .lit (.int .u8 5), .lit (.int .u8 63), .lit (.int .u8 55), .lit (.int .u8 48), .lit (.int .u8 27), .lit (.int .u8 60), .lit (.int .u8 41), .lit (.int .u8 37), .lit (.int .u8 16), .lit (.int .u8 46), .lit (.int .u8 35), .lit (.int .u8 44), .lit (.int .u8 21), .lit (.int .u8 52), .lit (.int .u8 32), .lit (.int .u8 23), .lit (.int .u8 11), .lit (.int .u8 54), .lit (.int .u8 26), .lit (.int .u8 40), .lit (.int .u8 15), .lit (.int .u8 34), .lit (.int .u8 20), .lit (.int .u8 31), .lit (.int .u8 10), .lit (.int .u8 25), .lit (.int .u8 14), .lit (.int .u8 19), .lit (.int .u8 9), .lit (.int .u8 13), .lit (.int .u8 8), .lit (.int .u8 7), .lit (.int .u8 6)]
def laid_internal_strconv_uint64pow10 {H : Type} : DataW H := .agg [.lit (.int .u64 1), .lit (.int .u64 10), .lit (.int .u64 100), .lit (.int .u64 1000), .lit (.int .u64 10000), .lit (.int .u64 100000), .lit (.int .u64 1000000), .lit (.int .u64 10000000), .lit (.int .u64 100000000), .lit (.int .u64 1000000000), .lit (.int .u64 10000000000), .lit (.int .u64 100000000000), .lit (.int .u64 1000000000000), .lit (.int .u64 10000000000000), .lit (.int .u64 100000000000000), .lit (.int .u64 1000000000000000), .lit (.int .u64 10000000000000000), .lit (.int .u64 100000000000000000), .lit (.int .u64 1000000000000000000), .lit (.int .u64 10000000000000000000)]

/-- 'bitemporallaw28.NonseqSelects': WHATEVER THE INPUT: true; the input reads as it did. -/
def nonseqSelectsSpec : ChangeSpec := { name := "nonseqSelects", fn := fun _ => fun
  | [d1, d2, d3] => { results := [.lit (.bool true)], args := [d1, d2, d3] }
  | _ => none }
def nonseqSelectsRow : OpenClaim := { program := "ytnbnpnmkgemdeaagreatdoor", sum := "bbb76cdc7a126f204d1fec23f93620bb20edb7dde62f4899e867751fd8e4cbb4", func := "bitemporal/bitemporallaw28.NonseqSelects", spec := "nonseqSelects", inPlace := ["internal/bytealg.abigen_runtime_cmpstring", "internal/abi.NoEscape"], unfollowed := true, recurses := true, named := ["internal/strconv.uint64pow10", "math/bits.deBruijn32tab", "math/bits.deBruijn64tab"], apart := false, laid := [("math/bits.deBruijn32tab", laid_math_bits_deBruijn32tab), ("math/bits.deBruijn64tab", laid_math_bits_deBruijn64tab), ("internal/strconv.uint64pow10", laid_internal_strconv_uint64pow10)] }
def NonseqSelectsSaid : Prop := nonseqSelectsRow.holds Tryz.pinned (OpenSpec.ofChange nonseqSelectsSpec)

/-- ITS FALSE NEIGHBOUR: 'it returns false'. Refute it at one input. -/
def nonseqSelectsWrong : ChangeSpec := { name := "nonseqSelects", fn := fun _ => fun
  | [d1, d2, d3] => { results := [.lit (.bool false)], args := [d1, d2, d3] }
  | _ => none }
def NonseqSelectsWrongFalsely : Prop := nonseqSelectsRow.holds Tryz.pinned (OpenSpec.ofChange nonseqSelectsWrong)

/-- 'bitemporallaw28.NonseqRows': WHATEVER THE INPUT: true; the input reads as it did. -/
def nonseqRowsSpec : ChangeSpec := { name := "nonseqRows", fn := fun _ => fun
  | [d1, d2] => { results := [.lit (.bool true)], args := [d1, d2] }
  | _ => none }
def nonseqRowsRow : OpenClaim := { program := "ytnbnpnmkgemdeaagreatdoor", sum := "bbb76cdc7a126f204d1fec23f93620bb20edb7dde62f4899e867751fd8e4cbb4", func := "bitemporal/bitemporallaw28.NonseqRows", spec := "nonseqRows", inPlace := ["internal/bytealg.abigen_runtime_cmpstring", "internal/abi.NoEscape"], unfollowed := true, recurses := true, named := ["internal/strconv.uint64pow10", "math/bits.deBruijn32tab", "math/bits.deBruijn64tab"], apart := false, laid := [("math/bits.deBruijn32tab", laid_math_bits_deBruijn32tab), ("math/bits.deBruijn64tab", laid_math_bits_deBruijn64tab), ("internal/strconv.uint64pow10", laid_internal_strconv_uint64pow10)] }
def NonseqRowsSaid : Prop := nonseqRowsRow.holds Tryz.pinned (OpenSpec.ofChange nonseqRowsSpec)

/-- ITS FALSE NEIGHBOUR: 'it returns false'. Refute it at one input. -/
def nonseqRowsWrong : ChangeSpec := { name := "nonseqRows", fn := fun _ => fun
  | [d1, d2] => { results := [.lit (.bool false)], args := [d1, d2] }
  | _ => none }
def NonseqRowsWrongFalsely : Prop := nonseqRowsRow.holds Tryz.pinned (OpenSpec.ofChange nonseqRowsWrong)

/-- 'bitemporallaw28.NonseqBeliefs': WHATEVER THE INPUT: true; the input reads as it did. -/
def nonseqBeliefsSpec : ChangeSpec := { name := "nonseqBeliefs", fn := fun _ => fun
  | [d1, d2, d3] => { results := [.lit (.bool true)], args := [d1, d2, d3] }
  | _ => none }
def nonseqBeliefsRow : OpenClaim := { program := "ytnbnpnmkgemdeaagreatdoor", sum := "bbb76cdc7a126f204d1fec23f93620bb20edb7dde62f4899e867751fd8e4cbb4", func := "bitemporal/bitemporallaw28.NonseqBeliefs", spec := "nonseqBeliefs", inPlace := ["internal/bytealg.abigen_runtime_cmpstring", "internal/abi.NoEscape"], unfollowed := true, recurses := true, named := ["internal/strconv.uint64pow10", "math/bits.deBruijn32tab", "math/bits.deBruijn64tab"], apart := false, laid := [("math/bits.deBruijn32tab", laid_math_bits_deBruijn32tab), ("math/bits.deBruijn64tab", laid_math_bits_deBruijn64tab), ("internal/strconv.uint64pow10", laid_internal_strconv_uint64pow10)] }
def NonseqBeliefsSaid : Prop := nonseqBeliefsRow.holds Tryz.pinned (OpenSpec.ofChange nonseqBeliefsSpec)

/-- ITS FALSE NEIGHBOUR: 'it returns false'. Refute it at one input. -/
def nonseqBeliefsWrong : ChangeSpec := { name := "nonseqBeliefs", fn := fun _ => fun
  | [d1, d2, d3] => { results := [.lit (.bool false)], args := [d1, d2, d3] }
  | _ => none }
def NonseqBeliefsWrongFalsely : Prop := nonseqBeliefsRow.holds Tryz.pinned (OpenSpec.ofChange nonseqBeliefsWrong)

/-- 'bitemporallaw28.NonseqRanges': WHATEVER THE INPUT: true; the input reads as it did. -/
def nonseqRangesSpec : ChangeSpec := { name := "nonseqRanges", fn := fun _ => fun
  | [d1, d2, d3] => { results := [.lit (.bool true)], args := [d1, d2, d3] }
  | _ => none }
def nonseqRangesRow : OpenClaim := { program := "ytnbnpnmkgemdeaagreatdoor", sum := "bbb76cdc7a126f204d1fec23f93620bb20edb7dde62f4899e867751fd8e4cbb4", func := "bitemporal/bitemporallaw28.NonseqRanges", spec := "nonseqRanges", inPlace := ["internal/bytealg.abigen_runtime_cmpstring", "internal/abi.NoEscape"], unfollowed := true, recurses := true, named := ["internal/strconv.uint64pow10", "math/bits.deBruijn32tab", "math/bits.deBruijn64tab"], apart := false, laid := [("math/bits.deBruijn32tab", laid_math_bits_deBruijn32tab), ("math/bits.deBruijn64tab", laid_math_bits_deBruijn64tab), ("internal/strconv.uint64pow10", laid_internal_strconv_uint64pow10)] }
def NonseqRangesSaid : Prop := nonseqRangesRow.holds Tryz.pinned (OpenSpec.ofChange nonseqRangesSpec)

/-- ITS FALSE NEIGHBOUR: 'it returns false'. Refute it at one input. -/
def nonseqRangesWrong : ChangeSpec := { name := "nonseqRanges", fn := fun _ => fun
  | [d1, d2, d3] => { results := [.lit (.bool false)], args := [d1, d2, d3] }
  | _ => none }
def NonseqRangesWrongFalsely : Prop := nonseqRangesRow.holds Tryz.pinned (OpenSpec.ofChange nonseqRangesWrong)

/-- 'bitemporallaw28.NonseqRelated': WHATEVER THE INPUT: true; the input reads as it did. -/
def nonseqRelatedSpec : ChangeSpec := { name := "nonseqRelated", fn := fun _ => fun
  | [d1, d2, d3] => { results := [.lit (.bool true)], args := [d1, d2, d3] }
  | _ => none }
def nonseqRelatedRow : OpenClaim := { program := "ytnbnpnmkgemdeaagreatdoor", sum := "bbb76cdc7a126f204d1fec23f93620bb20edb7dde62f4899e867751fd8e4cbb4", func := "bitemporal/bitemporallaw28.NonseqRelated", spec := "nonseqRelated", inPlace := ["internal/bytealg.abigen_runtime_cmpstring", "internal/abi.NoEscape"], unfollowed := true, recurses := true, named := ["internal/strconv.uint64pow10", "math/bits.deBruijn32tab", "math/bits.deBruijn64tab"], apart := false, laid := [("math/bits.deBruijn32tab", laid_math_bits_deBruijn32tab), ("math/bits.deBruijn64tab", laid_math_bits_deBruijn64tab), ("internal/strconv.uint64pow10", laid_internal_strconv_uint64pow10)] }
def NonseqRelatedSaid : Prop := nonseqRelatedRow.holds Tryz.pinned (OpenSpec.ofChange nonseqRelatedSpec)

/-- ITS FALSE NEIGHBOUR: 'it returns false'. Refute it at one input. -/
def nonseqRelatedWrong : ChangeSpec := { name := "nonseqRelated", fn := fun _ => fun
  | [d1, d2, d3] => { results := [.lit (.bool false)], args := [d1, d2, d3] }
  | _ => none }
def NonseqRelatedWrongFalsely : Prop := nonseqRelatedRow.holds Tryz.pinned (OpenSpec.ofChange nonseqRelatedWrong)

/-- 'bitemporallaw28.NonseqRuns': WHATEVER THE INPUT: true; the input reads as it did. -/
def nonseqRunsSpec : ChangeSpec := { name := "nonseqRuns", fn := fun _ => fun
  | [d1, d2] => { results := [.lit (.bool true)], args := [d1, d2] }
  | _ => none }
def nonseqRunsRow : OpenClaim := { program := "ytnbnpnmkgemdeaagreatdoor", sum := "bbb76cdc7a126f204d1fec23f93620bb20edb7dde62f4899e867751fd8e4cbb4", func := "bitemporal/bitemporallaw28.NonseqRuns", spec := "nonseqRuns", inPlace := ["internal/bytealg.abigen_runtime_cmpstring", "internal/abi.NoEscape"], unfollowed := true, recurses := true, named := ["internal/strconv.uint64pow10", "math/bits.deBruijn32tab", "math/bits.deBruijn64tab"], loops := true, apart := false, laid := [("math/bits.deBruijn32tab", laid_math_bits_deBruijn32tab), ("math/bits.deBruijn64tab", laid_math_bits_deBruijn64tab), ("internal/strconv.uint64pow10", laid_internal_strconv_uint64pow10)] }
def NonseqRunsSaid : Prop := nonseqRunsRow.holds Tryz.pinned (OpenSpec.ofChange nonseqRunsSpec)

/-- ITS FALSE NEIGHBOUR: 'it returns false'. Refute it at one input. -/
def nonseqRunsWrong : ChangeSpec := { name := "nonseqRuns", fn := fun _ => fun
  | [d1, d2] => { results := [.lit (.bool false)], args := [d1, d2] }
  | _ => none }
def NonseqRunsWrongFalsely : Prop := nonseqRunsRow.holds Tryz.pinned (OpenSpec.ofChange nonseqRunsWrong)

/-- 'bitemporallaw28.NonseqMatches': WHATEVER THE INPUT: true; the input reads as it did. -/
def nonseqMatchesSpec : ChangeSpec := { name := "nonseqMatches", fn := fun _ => fun
  | [d1, d2, d3] => { results := [.lit (.bool true)], args := [d1, d2, d3] }
  | _ => none }
def nonseqMatchesRow : OpenClaim := { program := "ytnbnpnmkgemdeaagreatdoor", sum := "bbb76cdc7a126f204d1fec23f93620bb20edb7dde62f4899e867751fd8e4cbb4", func := "bitemporal/bitemporallaw28.NonseqMatches", spec := "nonseqMatches", inPlace := ["internal/bytealg.abigen_runtime_cmpstring", "internal/abi.NoEscape"], unfollowed := true, recurses := true, named := ["internal/strconv.uint64pow10", "math/bits.deBruijn32tab", "math/bits.deBruijn64tab"], apart := false, laid := [("math/bits.deBruijn32tab", laid_math_bits_deBruijn32tab), ("math/bits.deBruijn64tab", laid_math_bits_deBruijn64tab), ("internal/strconv.uint64pow10", laid_internal_strconv_uint64pow10)] }
def NonseqMatchesSaid : Prop := nonseqMatchesRow.holds Tryz.pinned (OpenSpec.ofChange nonseqMatchesSpec)

/-- ITS FALSE NEIGHBOUR: 'it returns false'. Refute it at one input. -/
def nonseqMatchesWrong : ChangeSpec := { name := "nonseqMatches", fn := fun _ => fun
  | [d1, d2, d3] => { results := [.lit (.bool false)], args := [d1, d2, d3] }
  | _ => none }
def NonseqMatchesWrongFalsely : Prop := nonseqMatchesRow.holds Tryz.pinned (OpenSpec.ofChange nonseqMatchesWrong)

/- THE SECOND FORM. 'bulk': how many values and letters a reading holds, each counted each time it is reached (what is shared counts as often as it is met; a slice's spare places count too). A statement '..UptoSaid' is the law's where the arguments, and the package variables that the reading takes, are together of bulk at most 1048576: NARROWER than '..Said'. Prove '..Said' where nothing that the law and all that it calls make is longer than what came in: it says more and counts as full. Else prove '..UptoSaid'. A law counts once. -/
mutual
def uptoBulk {H : Type} : DataW H → Nat
  | .lit (.string bytes) => bytes.length + 1
  | .lit _ => 1
  | .nil => 1
  | .ptr d => uptoBulk d + 1
  | .slice elems spare => uptoBulkAll elems + uptoBulkAll spare + 1
  | .agg parts => uptoBulkAll parts + 1
  | .iface _ d => uptoBulk d + 1
  | .map entries => uptoBulkEntries entries + 1
  | .held _ => 1
def uptoBulkAll {H : Type} : List (DataW H) → Nat
  | [] => 0
  | d :: r => uptoBulk d + uptoBulkAll r
def uptoBulkEntries {H : Type} : List (Lit × DataW H) → Nat
  | [] => 0
  | x :: r => uptoBulkEntry x + uptoBulkEntries r
def uptoBulkEntry {H : Type} : Lit × DataW H → Nat
  | (.string bytes, d) => bytes.length + uptoBulk d + 1
  | (_, d) => uptoBulk d + 1
 end
def uptoSmall : (H : Type) → List (DataW H) → Bool := fun _ ds => decide (uptoBulkAll ds ≤ 1048576)
def OpenSpec.upto (s : _root_.Go.ChangeSpec) : _root_.Go.OpenSpec := { _root_.Go.OpenSpec.ofChange s with cond := some uptoSmall }

/-- 'bitemporallaw28.NonseqSelects', WHERE WHAT IT READS IS OF BULK AT MOST 1048576: true; the input reads as it did. -/
def nonseqSelectsUptoRow : OpenClaim := { program := "ytnbnpnmkgemdeaagreatdoor", sum := "bbb76cdc7a126f204d1fec23f93620bb20edb7dde62f4899e867751fd8e4cbb4", func := "bitemporal/bitemporallaw28.NonseqSelects", spec := "nonseqSelects", inPlace := ["internal/bytealg.abigen_runtime_cmpstring", "internal/abi.NoEscape"], unfollowed := true, recurses := true, named := ["internal/strconv.uint64pow10", "math/bits.deBruijn32tab", "math/bits.deBruijn64tab"], apart := false, laid := [("math/bits.deBruijn32tab", laid_math_bits_deBruijn32tab), ("math/bits.deBruijn64tab", laid_math_bits_deBruijn64tab), ("internal/strconv.uint64pow10", laid_internal_strconv_uint64pow10)], narrowed := true }
def NonseqSelectsUptoSaid : Prop := nonseqSelectsUptoRow.holds Tryz.pinned (OpenSpec.upto nonseqSelectsSpec)

/-- 'bitemporallaw28.NonseqRows', WHERE WHAT IT READS IS OF BULK AT MOST 1048576: true; the input reads as it did. -/
def nonseqRowsUptoRow : OpenClaim := { program := "ytnbnpnmkgemdeaagreatdoor", sum := "bbb76cdc7a126f204d1fec23f93620bb20edb7dde62f4899e867751fd8e4cbb4", func := "bitemporal/bitemporallaw28.NonseqRows", spec := "nonseqRows", inPlace := ["internal/bytealg.abigen_runtime_cmpstring", "internal/abi.NoEscape"], unfollowed := true, recurses := true, named := ["internal/strconv.uint64pow10", "math/bits.deBruijn32tab", "math/bits.deBruijn64tab"], apart := false, laid := [("math/bits.deBruijn32tab", laid_math_bits_deBruijn32tab), ("math/bits.deBruijn64tab", laid_math_bits_deBruijn64tab), ("internal/strconv.uint64pow10", laid_internal_strconv_uint64pow10)], narrowed := true }
def NonseqRowsUptoSaid : Prop := nonseqRowsUptoRow.holds Tryz.pinned (OpenSpec.upto nonseqRowsSpec)

/-- 'bitemporallaw28.NonseqBeliefs', WHERE WHAT IT READS IS OF BULK AT MOST 1048576: true; the input reads as it did. -/
def nonseqBeliefsUptoRow : OpenClaim := { program := "ytnbnpnmkgemdeaagreatdoor", sum := "bbb76cdc7a126f204d1fec23f93620bb20edb7dde62f4899e867751fd8e4cbb4", func := "bitemporal/bitemporallaw28.NonseqBeliefs", spec := "nonseqBeliefs", inPlace := ["internal/bytealg.abigen_runtime_cmpstring", "internal/abi.NoEscape"], unfollowed := true, recurses := true, named := ["internal/strconv.uint64pow10", "math/bits.deBruijn32tab", "math/bits.deBruijn64tab"], apart := false, laid := [("math/bits.deBruijn32tab", laid_math_bits_deBruijn32tab), ("math/bits.deBruijn64tab", laid_math_bits_deBruijn64tab), ("internal/strconv.uint64pow10", laid_internal_strconv_uint64pow10)], narrowed := true }
def NonseqBeliefsUptoSaid : Prop := nonseqBeliefsUptoRow.holds Tryz.pinned (OpenSpec.upto nonseqBeliefsSpec)

/-- 'bitemporallaw28.NonseqRanges', WHERE WHAT IT READS IS OF BULK AT MOST 1048576: true; the input reads as it did. -/
def nonseqRangesUptoRow : OpenClaim := { program := "ytnbnpnmkgemdeaagreatdoor", sum := "bbb76cdc7a126f204d1fec23f93620bb20edb7dde62f4899e867751fd8e4cbb4", func := "bitemporal/bitemporallaw28.NonseqRanges", spec := "nonseqRanges", inPlace := ["internal/bytealg.abigen_runtime_cmpstring", "internal/abi.NoEscape"], unfollowed := true, recurses := true, named := ["internal/strconv.uint64pow10", "math/bits.deBruijn32tab", "math/bits.deBruijn64tab"], apart := false, laid := [("math/bits.deBruijn32tab", laid_math_bits_deBruijn32tab), ("math/bits.deBruijn64tab", laid_math_bits_deBruijn64tab), ("internal/strconv.uint64pow10", laid_internal_strconv_uint64pow10)], narrowed := true }
def NonseqRangesUptoSaid : Prop := nonseqRangesUptoRow.holds Tryz.pinned (OpenSpec.upto nonseqRangesSpec)

/-- 'bitemporallaw28.NonseqRelated', WHERE WHAT IT READS IS OF BULK AT MOST 1048576: true; the input reads as it did. -/
def nonseqRelatedUptoRow : OpenClaim := { program := "ytnbnpnmkgemdeaagreatdoor", sum := "bbb76cdc7a126f204d1fec23f93620bb20edb7dde62f4899e867751fd8e4cbb4", func := "bitemporal/bitemporallaw28.NonseqRelated", spec := "nonseqRelated", inPlace := ["internal/bytealg.abigen_runtime_cmpstring", "internal/abi.NoEscape"], unfollowed := true, recurses := true, named := ["internal/strconv.uint64pow10", "math/bits.deBruijn32tab", "math/bits.deBruijn64tab"], apart := false, laid := [("math/bits.deBruijn32tab", laid_math_bits_deBruijn32tab), ("math/bits.deBruijn64tab", laid_math_bits_deBruijn64tab), ("internal/strconv.uint64pow10", laid_internal_strconv_uint64pow10)], narrowed := true }
def NonseqRelatedUptoSaid : Prop := nonseqRelatedUptoRow.holds Tryz.pinned (OpenSpec.upto nonseqRelatedSpec)

/-- 'bitemporallaw28.NonseqRuns', WHERE WHAT IT READS IS OF BULK AT MOST 1048576: true; the input reads as it did. -/
def nonseqRunsUptoRow : OpenClaim := { program := "ytnbnpnmkgemdeaagreatdoor", sum := "bbb76cdc7a126f204d1fec23f93620bb20edb7dde62f4899e867751fd8e4cbb4", func := "bitemporal/bitemporallaw28.NonseqRuns", spec := "nonseqRuns", inPlace := ["internal/bytealg.abigen_runtime_cmpstring", "internal/abi.NoEscape"], unfollowed := true, recurses := true, named := ["internal/strconv.uint64pow10", "math/bits.deBruijn32tab", "math/bits.deBruijn64tab"], loops := true, apart := false, laid := [("math/bits.deBruijn32tab", laid_math_bits_deBruijn32tab), ("math/bits.deBruijn64tab", laid_math_bits_deBruijn64tab), ("internal/strconv.uint64pow10", laid_internal_strconv_uint64pow10)], narrowed := true }
def NonseqRunsUptoSaid : Prop := nonseqRunsUptoRow.holds Tryz.pinned (OpenSpec.upto nonseqRunsSpec)

/-- 'bitemporallaw28.NonseqMatches', WHERE WHAT IT READS IS OF BULK AT MOST 1048576: true; the input reads as it did. -/
def nonseqMatchesUptoRow : OpenClaim := { program := "ytnbnpnmkgemdeaagreatdoor", sum := "bbb76cdc7a126f204d1fec23f93620bb20edb7dde62f4899e867751fd8e4cbb4", func := "bitemporal/bitemporallaw28.NonseqMatches", spec := "nonseqMatches", inPlace := ["internal/bytealg.abigen_runtime_cmpstring", "internal/abi.NoEscape"], unfollowed := true, recurses := true, named := ["internal/strconv.uint64pow10", "math/bits.deBruijn32tab", "math/bits.deBruijn64tab"], apart := false, laid := [("math/bits.deBruijn32tab", laid_math_bits_deBruijn32tab), ("math/bits.deBruijn64tab", laid_math_bits_deBruijn64tab), ("internal/strconv.uint64pow10", laid_internal_strconv_uint64pow10)], narrowed := true }
def NonseqMatchesUptoSaid : Prop := nonseqMatchesUptoRow.holds Tryz.pinned (OpenSpec.upto nonseqMatchesSpec)

end Rows
end Go.Proofs.YtnbnpnmkgemdeaaGreatDoor
