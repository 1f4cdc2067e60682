/-
  No cell of these rows narrows 'for every input' (looked for: loops, veiled, ifaces, maps, wideKeys, modest, calm, conditions, laid).
  DERIVED. THE GIVEN ROWS OF THIS SEAT. 11 by the template 'for every input the law returns true; each argument reads behind the call as it read before'; 0 by the template 'total and deterministic' (their statements: YtplhcnlpfoiieaaTotals.lean).
  GIVEN WITH THE SEED: the statements are not yours to turn. If you find one false, say at which input.
  Laid BY PROGRAM, IN A SANDBOX (cutbox-rows.mjs): the forced cells as the released guide's own fill.sh prints them over the translation 7f8958510898d89e… (all of the seat's roots in one cut). By AI agents, Wed Nov 11 2026. No macro, syntax, notation, axiom, sorry.
-/
import Derived.Test.YtplhcnlpfoiieaaChecked
import GoSem.Claim
import GoSem.ClaimJoined
import GoSem.ClaimMapViews
import Derived.JoinedTies
import Derived.KernelRfl
namespace Go.Proofs.Ytplhcnlpfoiieaa
/- THE CELL 'sum', in the pinned program and in every row, IS THE sha256 OF THE DUMP (.gsa) THAT YtplhcnlpfoiieaaProg.lean LOADS. Nothing in Lean hashes anything: it is a label: what it is worth is what the hold of that sum in a sandbox is worth. -/
noncomputable def Try.pinned : Pinned := { name := "ytplhcnlpfoiieaa", sum := "7f8958510898d89ee2dd152ed695a151296c18869f9f8b3c71719468d19f7061", checked := Try.checked }
namespace Rows
def none {H : Type} : Left H := { results := [], args := [] }

/-- 'shardlaw1.TextPieces': WHATEVER THE INPUT: true; the input reads as it did. -/
def textPiecesSpec : ChangeSpec := { name := "textPieces", fn := fun _ => fun
  | [d] => { results := [.lit (.bool true)], args := [d] }
  | _ => none }
def textPiecesRow : OpenClaim := { program := "ytplhcnlpfoiieaa", sum := "7f8958510898d89ee2dd152ed695a151296c18869f9f8b3c71719468d19f7061", func := "shard/shardlaw1.TextPieces", spec := "textPieces", apart := false }
def TextPiecesSaid : Prop := textPiecesRow.holds Try.pinned (OpenSpec.ofChange textPiecesSpec)

/-- ITS FALSE NEIGHBOUR: 'it returns false'. Refute it at one input. -/
def textPiecesWrong : ChangeSpec := { name := "textPieces", fn := fun _ => fun
  | [d] => { results := [.lit (.bool false)], args := [d] }
  | _ => none }
def TextPiecesWrongFalsely : Prop := textPiecesRow.holds Try.pinned (OpenSpec.ofChange textPiecesWrong)

/-- 'shardlaw1.TextEncodes': WHATEVER THE INPUT: true; the input reads as it did. -/
def textEncodesSpec : ChangeSpec := { name := "textEncodes", fn := fun _ => fun
  | [d] => { results := [.lit (.bool true)], args := [d] }
  | _ => none }
def textEncodesRow : OpenClaim := { program := "ytplhcnlpfoiieaa", sum := "7f8958510898d89ee2dd152ed695a151296c18869f9f8b3c71719468d19f7061", func := "shard/shardlaw1.TextEncodes", spec := "textEncodes", apart := false }
def TextEncodesSaid : Prop := textEncodesRow.holds Try.pinned (OpenSpec.ofChange textEncodesSpec)

/-- ITS FALSE NEIGHBOUR: 'it returns false'. Refute it at one input. -/
def textEncodesWrong : ChangeSpec := { name := "textEncodes", fn := fun _ => fun
  | [d] => { results := [.lit (.bool false)], args := [d] }
  | _ => none }
def TextEncodesWrongFalsely : Prop := textEncodesRow.holds Try.pinned (OpenSpec.ofChange textEncodesWrong)

/-- 'shardlaw1.TextNumbers': WHATEVER THE INPUT: true; the input reads as it did. -/
def textNumbersSpec : ChangeSpec := { name := "textNumbers", fn := fun _ => fun
  | [d] => { results := [.lit (.bool true)], args := [d] }
  | _ => none }
def textNumbersRow : OpenClaim := { program := "ytplhcnlpfoiieaa", sum := "7f8958510898d89ee2dd152ed695a151296c18869f9f8b3c71719468d19f7061", func := "shard/shardlaw1.TextNumbers", spec := "textNumbers", apart := false }
def TextNumbersSaid : Prop := textNumbersRow.holds Try.pinned (OpenSpec.ofChange textNumbersSpec)

/-- ITS FALSE NEIGHBOUR: 'it returns false'. Refute it at one input. -/
def textNumbersWrong : ChangeSpec := { name := "textNumbers", fn := fun _ => fun
  | [d] => { results := [.lit (.bool false)], args := [d] }
  | _ => none }
def TextNumbersWrongFalsely : Prop := textNumbersRow.holds Try.pinned (OpenSpec.ofChange textNumbersWrong)

/-- 'shardlaw1.TextWhole': WHATEVER THE INPUT: true; the input reads as it did. -/
def textWholeSpec : ChangeSpec := { name := "textWhole", fn := fun _ => fun
  | [d] => { results := [.lit (.bool true)], args := [d] }
  | _ => none }
def textWholeRow : OpenClaim := { program := "ytplhcnlpfoiieaa", sum := "7f8958510898d89ee2dd152ed695a151296c18869f9f8b3c71719468d19f7061", func := "shard/shardlaw1.TextWhole", spec := "textWhole", apart := false }
def TextWholeSaid : Prop := textWholeRow.holds Try.pinned (OpenSpec.ofChange textWholeSpec)

/-- ITS FALSE NEIGHBOUR: 'it returns false'. Refute it at one input. -/
def textWholeWrong : ChangeSpec := { name := "textWhole", fn := fun _ => fun
  | [d] => { results := [.lit (.bool false)], args := [d] }
  | _ => none }
def TextWholeWrongFalsely : Prop := textWholeRow.holds Try.pinned (OpenSpec.ofChange textWholeWrong)

/-- 'shardlaw1.TextApart': WHATEVER THE INPUT: true; the input reads as it did. -/
def textApartSpec : ChangeSpec := { name := "textApart", fn := fun _ => fun
  | [d1, d2] => { results := [.lit (.bool true)], args := [d1, d2] }
  | _ => none }
def textApartRow : OpenClaim := { program := "ytplhcnlpfoiieaa", sum := "7f8958510898d89ee2dd152ed695a151296c18869f9f8b3c71719468d19f7061", func := "shard/shardlaw1.TextApart", spec := "textApart", apart := false }
def TextApartSaid : Prop := textApartRow.holds Try.pinned (OpenSpec.ofChange textApartSpec)

/-- ITS FALSE NEIGHBOUR: 'it returns false'. Refute it at one input. -/
def textApartWrong : ChangeSpec := { name := "textApart", fn := fun _ => fun
  | [d1, d2] => { results := [.lit (.bool false)], args := [d1, d2] }
  | _ => none }
def TextApartWrongFalsely : Prop := textApartRow.holds Try.pinned (OpenSpec.ofChange textApartWrong)

/-- 'shardlaw1.TextQuotes': WHATEVER THE INPUT: true; the input reads as it did. -/
def textQuotesSpec : ChangeSpec := { name := "textQuotes", fn := fun _ => fun
  | [d] => { results := [.lit (.bool true)], args := [d] }
  | _ => none }
def textQuotesRow : OpenClaim := { program := "ytplhcnlpfoiieaa", sum := "7f8958510898d89ee2dd152ed695a151296c18869f9f8b3c71719468d19f7061", func := "shard/shardlaw1.TextQuotes", spec := "textQuotes", recurses := true, apart := false }
def TextQuotesSaid : Prop := textQuotesRow.holds Try.pinned (OpenSpec.ofChange textQuotesSpec)

/-- ITS FALSE NEIGHBOUR: 'it returns false'. Refute it at one input. -/
def textQuotesWrong : ChangeSpec := { name := "textQuotes", fn := fun _ => fun
  | [d] => { results := [.lit (.bool false)], args := [d] }
  | _ => none }
def TextQuotesWrongFalsely : Prop := textQuotesRow.holds Try.pinned (OpenSpec.ofChange textQuotesWrong)

/-- 'shardlaw1.TextJoins': WHATEVER THE INPUT: true; the input reads as it did. -/
def textJoinsSpec : ChangeSpec := { name := "textJoins", fn := fun _ => fun
  | [d] => { results := [.lit (.bool true)], args := [d] }
  | _ => none }
def textJoinsRow : OpenClaim := { program := "ytplhcnlpfoiieaa", sum := "7f8958510898d89ee2dd152ed695a151296c18869f9f8b3c71719468d19f7061", func := "shard/shardlaw1.TextJoins", spec := "textJoins", inPlace := ["internal/abi.NoEscape"], recurses := true, apart := false }
def TextJoinsSaid : Prop := textJoinsRow.holds Try.pinned (OpenSpec.ofChange textJoinsSpec)

/-- ITS FALSE NEIGHBOUR: 'it returns false'. Refute it at one input. -/
def textJoinsWrong : ChangeSpec := { name := "textJoins", fn := fun _ => fun
  | [d] => { results := [.lit (.bool false)], args := [d] }
  | _ => none }
def TextJoinsWrongFalsely : Prop := textJoinsRow.holds Try.pinned (OpenSpec.ofChange textJoinsWrong)

/-- 'shardlaw1.TextColumns': WHATEVER THE INPUT: true; the input reads as it did. -/
def textColumnsSpec : ChangeSpec := { name := "textColumns", fn := fun _ => fun
  | [d1, d2, d3] => { results := [.lit (.bool true)], args := [d1, d2, d3] }
  | _ => none }
def textColumnsRow : OpenClaim := { program := "ytplhcnlpfoiieaa", sum := "7f8958510898d89ee2dd152ed695a151296c18869f9f8b3c71719468d19f7061", func := "shard/shardlaw1.TextColumns", spec := "textColumns", inPlace := ["internal/abi.NoEscape", "internal/bytealg.MakeNoZero"], apart := false }
def TextColumnsSaid : Prop := textColumnsRow.holds Try.pinned (OpenSpec.ofChange textColumnsSpec)

/-- ITS FALSE NEIGHBOUR: 'it returns false'. Refute it at one input. -/
def textColumnsWrong : ChangeSpec := { name := "textColumns", fn := fun _ => fun
  | [d1, d2, d3] => { results := [.lit (.bool false)], args := [d1, d2, d3] }
  | _ => none }
def TextColumnsWrongFalsely : Prop := textColumnsRow.holds Try.pinned (OpenSpec.ofChange textColumnsWrong)

/-- 'shardlaw1.TextFits': WHATEVER THE INPUT: true; the input reads as it did. -/
def textFitsSpec : ChangeSpec := { name := "textFits", fn := fun _ => fun
  | [d1, d2, d3] => { results := [.lit (.bool true)], args := [d1, d2, d3] }
  | _ => none }
def textFitsRow : OpenClaim := { program := "ytplhcnlpfoiieaa", sum := "7f8958510898d89ee2dd152ed695a151296c18869f9f8b3c71719468d19f7061", func := "shard/shardlaw1.TextFits", spec := "textFits", inPlace := ["internal/abi.NoEscape", "internal/bytealg.MakeNoZero"], apart := false }
def TextFitsSaid : Prop := textFitsRow.holds Try.pinned (OpenSpec.ofChange textFitsSpec)

/-- ITS FALSE NEIGHBOUR: 'it returns false'. Refute it at one input. -/
def textFitsWrong : ChangeSpec := { name := "textFits", fn := fun _ => fun
  | [d1, d2, d3] => { results := [.lit (.bool false)], args := [d1, d2, d3] }
  | _ => none }
def TextFitsWrongFalsely : Prop := textFitsRow.holds Try.pinned (OpenSpec.ofChange textFitsWrong)

/-- 'shardlaw1.TextTables': WHATEVER THE INPUT: true; the input reads as it did. -/
def textTablesSpec : ChangeSpec := { name := "textTables", fn := fun _ => fun
  | [d] => { results := [.lit (.bool true)], args := [d] }
  | _ => none }
def textTablesRow : OpenClaim := { program := "ytplhcnlpfoiieaa", sum := "7f8958510898d89ee2dd152ed695a151296c18869f9f8b3c71719468d19f7061", func := "shard/shardlaw1.TextTables", spec := "textTables", inPlace := ["internal/abi.NoEscape", "internal/bytealg.MakeNoZero"], apart := false }
def TextTablesSaid : Prop := textTablesRow.holds Try.pinned (OpenSpec.ofChange textTablesSpec)

/-- ITS FALSE NEIGHBOUR: 'it returns false'. Refute it at one input. -/
def textTablesWrong : ChangeSpec := { name := "textTables", fn := fun _ => fun
  | [d] => { results := [.lit (.bool false)], args := [d] }
  | _ => none }
def TextTablesWrongFalsely : Prop := textTablesRow.holds Try.pinned (OpenSpec.ofChange textTablesWrong)

/-- 'shardlaw1.TextAgain': WHATEVER THE INPUT: true; the input reads as it did. -/
def textAgainSpec : ChangeSpec := { name := "textAgain", fn := fun _ => fun
  | [d1, d2, d3] => { results := [.lit (.bool true)], args := [d1, d2, d3] }
  | _ => none }
def textAgainRow : OpenClaim := { program := "ytplhcnlpfoiieaa", sum := "7f8958510898d89ee2dd152ed695a151296c18869f9f8b3c71719468d19f7061", func := "shard/shardlaw1.TextAgain", spec := "textAgain", inPlace := ["internal/abi.NoEscape", "internal/bytealg.MakeNoZero"], recurses := true, apart := false }
def TextAgainSaid : Prop := textAgainRow.holds Try.pinned (OpenSpec.ofChange textAgainSpec)

/-- ITS FALSE NEIGHBOUR: 'it returns false'. Refute it at one input. -/
def textAgainWrong : ChangeSpec := { name := "textAgain", fn := fun _ => fun
  | [d1, d2, d3] => { results := [.lit (.bool false)], args := [d1, d2, d3] }
  | _ => none }
def TextAgainWrongFalsely : Prop := textAgainRow.holds Try.pinned (OpenSpec.ofChange textAgainWrong)

/- THE SECOND FORM. 'bulk': how many values and letters a reading holds, each counted each time it is reached (what is shared counts as often as it is met; a slice's spare places count too). A statement '..UptoSaid' is the law's where the arguments, and the package variables that the reading takes, are together of bulk at most 1048576: NARROWER than '..Said'. Prove '..Said' where nothing that the law and all that it calls make is longer than what came in: it says more and counts as full. Else prove '..UptoSaid'. A law counts once. -/
mutual
def uptoBulk {H : Type} : DataW H → Nat
  | .lit (.string bytes) => bytes.length + 1
  | .lit _ => 1
  | .nil => 1
  | .ptr d => uptoBulk d + 1
  | .slice elems spare => uptoBulkAll elems + uptoBulkAll spare + 1
  | .agg parts => uptoBulkAll parts + 1
  | .iface _ d => uptoBulk d + 1
  | .map entries => uptoBulkEntries entries + 1
  | .held _ => 1
def uptoBulkAll {H : Type} : List (DataW H) → Nat
  | [] => 0
  | d :: r => uptoBulk d + uptoBulkAll r
def uptoBulkEntries {H : Type} : List (Lit × DataW H) → Nat
  | [] => 0
  | x :: r => uptoBulkEntry x + uptoBulkEntries r
def uptoBulkEntry {H : Type} : Lit × DataW H → Nat
  | (.string bytes, d) => bytes.length + uptoBulk d + 1
  | (_, d) => uptoBulk d + 1
 end
def uptoSmall : (H : Type) → List (DataW H) → Bool := fun _ ds => decide (uptoBulkAll ds ≤ 1048576)
def OpenSpec.upto (s : _root_.Go.ChangeSpec) : _root_.Go.OpenSpec := { _root_.Go.OpenSpec.ofChange s with cond := some uptoSmall }

/-- 'shardlaw1.TextPieces', WHERE WHAT IT READS IS OF BULK AT MOST 1048576: true; the input reads as it did. -/
def textPiecesUptoRow : OpenClaim := { program := "ytplhcnlpfoiieaa", sum := "7f8958510898d89ee2dd152ed695a151296c18869f9f8b3c71719468d19f7061", func := "shard/shardlaw1.TextPieces", spec := "textPieces", apart := false, narrowed := true }
def TextPiecesUptoSaid : Prop := textPiecesUptoRow.holds Try.pinned (OpenSpec.upto textPiecesSpec)

/-- 'shardlaw1.TextEncodes', WHERE WHAT IT READS IS OF BULK AT MOST 1048576: true; the input reads as it did. -/
def textEncodesUptoRow : OpenClaim := { program := "ytplhcnlpfoiieaa", sum := "7f8958510898d89ee2dd152ed695a151296c18869f9f8b3c71719468d19f7061", func := "shard/shardlaw1.TextEncodes", spec := "textEncodes", apart := false, narrowed := true }
def TextEncodesUptoSaid : Prop := textEncodesUptoRow.holds Try.pinned (OpenSpec.upto textEncodesSpec)

/-- 'shardlaw1.TextNumbers', WHERE WHAT IT READS IS OF BULK AT MOST 1048576: true; the input reads as it did. -/
def textNumbersUptoRow : OpenClaim := { program := "ytplhcnlpfoiieaa", sum := "7f8958510898d89ee2dd152ed695a151296c18869f9f8b3c71719468d19f7061", func := "shard/shardlaw1.TextNumbers", spec := "textNumbers", apart := false, narrowed := true }
def TextNumbersUptoSaid : Prop := textNumbersUptoRow.holds Try.pinned (OpenSpec.upto textNumbersSpec)

/-- 'shardlaw1.TextWhole', WHERE WHAT IT READS IS OF BULK AT MOST 1048576: true; the input reads as it did. -/
def textWholeUptoRow : OpenClaim := { program := "ytplhcnlpfoiieaa", sum := "7f8958510898d89ee2dd152ed695a151296c18869f9f8b3c71719468d19f7061", func := "shard/shardlaw1.TextWhole", spec := "textWhole", apart := false, narrowed := true }
def TextWholeUptoSaid : Prop := textWholeUptoRow.holds Try.pinned (OpenSpec.upto textWholeSpec)

/-- 'shardlaw1.TextApart', WHERE WHAT IT READS IS OF BULK AT MOST 1048576: true; the input reads as it did. -/
def textApartUptoRow : OpenClaim := { program := "ytplhcnlpfoiieaa", sum := "7f8958510898d89ee2dd152ed695a151296c18869f9f8b3c71719468d19f7061", func := "shard/shardlaw1.TextApart", spec := "textApart", apart := false, narrowed := true }
def TextApartUptoSaid : Prop := textApartUptoRow.holds Try.pinned (OpenSpec.upto textApartSpec)

/-- 'shardlaw1.TextQuotes', WHERE WHAT IT READS IS OF BULK AT MOST 1048576: true; the input reads as it did. -/
def textQuotesUptoRow : OpenClaim := { program := "ytplhcnlpfoiieaa", sum := "7f8958510898d89ee2dd152ed695a151296c18869f9f8b3c71719468d19f7061", func := "shard/shardlaw1.TextQuotes", spec := "textQuotes", recurses := true, apart := false, narrowed := true }
def TextQuotesUptoSaid : Prop := textQuotesUptoRow.holds Try.pinned (OpenSpec.upto textQuotesSpec)

/-- 'shardlaw1.TextJoins', WHERE WHAT IT READS IS OF BULK AT MOST 1048576: true; the input reads as it did. -/
def textJoinsUptoRow : OpenClaim := { program := "ytplhcnlpfoiieaa", sum := "7f8958510898d89ee2dd152ed695a151296c18869f9f8b3c71719468d19f7061", func := "shard/shardlaw1.TextJoins", spec := "textJoins", inPlace := ["internal/abi.NoEscape"], recurses := true, apart := false, narrowed := true }
def TextJoinsUptoSaid : Prop := textJoinsUptoRow.holds Try.pinned (OpenSpec.upto textJoinsSpec)

/-- 'shardlaw1.TextColumns', WHERE WHAT IT READS IS OF BULK AT MOST 1048576: true; the input reads as it did. -/
def textColumnsUptoRow : OpenClaim := { program := "ytplhcnlpfoiieaa", sum := "7f8958510898d89ee2dd152ed695a151296c18869f9f8b3c71719468d19f7061", func := "shard/shardlaw1.TextColumns", spec := "textColumns", inPlace := ["internal/abi.NoEscape", "internal/bytealg.MakeNoZero"], apart := false, narrowed := true }
def TextColumnsUptoSaid : Prop := textColumnsUptoRow.holds Try.pinned (OpenSpec.upto textColumnsSpec)

/-- 'shardlaw1.TextFits', WHERE WHAT IT READS IS OF BULK AT MOST 1048576: true; the input reads as it did. -/
def textFitsUptoRow : OpenClaim := { program := "ytplhcnlpfoiieaa", sum := "7f8958510898d89ee2dd152ed695a151296c18869f9f8b3c71719468d19f7061", func := "shard/shardlaw1.TextFits", spec := "textFits", inPlace := ["internal/abi.NoEscape", "internal/bytealg.MakeNoZero"], apart := false, narrowed := true }
def TextFitsUptoSaid : Prop := textFitsUptoRow.holds Try.pinned (OpenSpec.upto textFitsSpec)

/-- 'shardlaw1.TextTables', WHERE WHAT IT READS IS OF BULK AT MOST 1048576: true; the input reads as it did. -/
def textTablesUptoRow : OpenClaim := { program := "ytplhcnlpfoiieaa", sum := "7f8958510898d89ee2dd152ed695a151296c18869f9f8b3c71719468d19f7061", func := "shard/shardlaw1.TextTables", spec := "textTables", inPlace := ["internal/abi.NoEscape", "internal/bytealg.MakeNoZero"], apart := false, narrowed := true }
def TextTablesUptoSaid : Prop := textTablesUptoRow.holds Try.pinned (OpenSpec.upto textTablesSpec)

/-- 'shardlaw1.TextAgain', WHERE WHAT IT READS IS OF BULK AT MOST 1048576: true; the input reads as it did. -/
def textAgainUptoRow : OpenClaim := { program := "ytplhcnlpfoiieaa", sum := "7f8958510898d89ee2dd152ed695a151296c18869f9f8b3c71719468d19f7061", func := "shard/shardlaw1.TextAgain", spec := "textAgain", inPlace := ["internal/abi.NoEscape", "internal/bytealg.MakeNoZero"], recurses := true, apart := false, narrowed := true }
def TextAgainUptoSaid : Prop := textAgainUptoRow.holds Try.pinned (OpenSpec.upto textAgainSpec)

end Rows
end Go.Proofs.Ytplhcnlpfoiieaa
