/-
  No cell of these rows narrows 'for every input' (looked for: loops, veiled, ifaces, maps, wideKeys, modest, calm, conditions, laid).
  DERIVED. THE GIVEN ROWS OF THIS SEAT. 8 by the template 'for every input the law returns true; each argument reads behind the call as it read before'; 0 by the template 'total and deterministic' (their statements: YtmemeaaccgmeaaaGreatTotals.lean).
  GIVEN WITH THE SEED: the statements are not yours to turn. If you find one false, say at which input.
  Laid BY PROGRAM, IN A SANDBOX (cutbox-rows.mjs): the forced cells as the released guide's own fill.sh prints them over the translation b1b044b51dc33688… (all of the seat's roots in one cut). By AI agents, Wed Nov 11 2026. No macro, syntax, notation, axiom, sorry.
-/
import Derived.Test.YtmemeaaccgmeaaaGreatChecked
import GoSem.Claim
import GoSem.ClaimJoined
import GoSem.ClaimMapViews
import Derived.JoinedTies
import Derived.KernelRfl
namespace Go.Proofs.YtmemeaaccgmeaaaGreat
/- THE CELL 'sum', in the pinned program and in every row, IS THE sha256 OF THE DUMP (.gsa) THAT YtmemeaaccgmeaaaGreatProg.lean LOADS. Nothing in Lean hashes anything: it is a label: what it is worth is what the hold of that sum in a sandbox is worth. -/
noncomputable def Tryz.pinned : Pinned := { name := "ytmemeaaccgmeaaagreat", sum := "b1b044b51dc3368814c6ac2b046dfc48101e81b5536005cac0353a9586a0715d", checked := Tryz.checked }
namespace Rows
def none {H : Type} : Left H := { results := [], args := [] }

/-- 'shardlaw13.HistoryChecks': WHATEVER THE INPUT: true; the input reads as it did. -/
def historyChecksSpec : ChangeSpec := { name := "historyChecks", fn := fun _ => fun
  | [d] => { results := [.lit (.bool true)], args := [d] }
  | _ => none }
def historyChecksRow : OpenClaim := { program := "ytmemeaaccgmeaaagreat", sum := "b1b044b51dc3368814c6ac2b046dfc48101e81b5536005cac0353a9586a0715d", func := "shard/shardlaw13.HistoryChecks", spec := "historyChecks", unfollowed := true, recurses := true, apart := false }
def HistoryChecksSaid : Prop := historyChecksRow.holds Tryz.pinned (OpenSpec.ofChange historyChecksSpec)

/-- ITS FALSE NEIGHBOUR: 'it returns false'. Refute it at one input. -/
def historyChecksWrong : ChangeSpec := { name := "historyChecks", fn := fun _ => fun
  | [d] => { results := [.lit (.bool false)], args := [d] }
  | _ => none }
def HistoryChecksWrongFalsely : Prop := historyChecksRow.holds Tryz.pinned (OpenSpec.ofChange historyChecksWrong)

/-- 'shardlaw13.HistoryFolds': WHATEVER THE INPUT: true; the input reads as it did. -/
def historyFoldsSpec : ChangeSpec := { name := "historyFolds", fn := fun _ => fun
  | [d] => { results := [.lit (.bool true)], args := [d] }
  | _ => none }
def historyFoldsRow : OpenClaim := { program := "ytmemeaaccgmeaaagreat", sum := "b1b044b51dc3368814c6ac2b046dfc48101e81b5536005cac0353a9586a0715d", func := "shard/shardlaw13.HistoryFolds", spec := "historyFolds", unfollowed := true, recurses := true, apart := false }
def HistoryFoldsSaid : Prop := historyFoldsRow.holds Tryz.pinned (OpenSpec.ofChange historyFoldsSpec)

/-- ITS FALSE NEIGHBOUR: 'it returns false'. Refute it at one input. -/
def historyFoldsWrong : ChangeSpec := { name := "historyFolds", fn := fun _ => fun
  | [d] => { results := [.lit (.bool false)], args := [d] }
  | _ => none }
def HistoryFoldsWrongFalsely : Prop := historyFoldsRow.holds Tryz.pinned (OpenSpec.ofChange historyFoldsWrong)

/-- 'shardlaw13.HistoryWrongTurn': WHATEVER THE INPUT: true; the input reads as it did. -/
def historyWrongTurnSpec : ChangeSpec := { name := "historyWrongTurn", fn := fun _ => fun
  | [d1, d2, d3] => { results := [.lit (.bool true)], args := [d1, d2, d3] }
  | _ => none }
def historyWrongTurnRow : OpenClaim := { program := "ytmemeaaccgmeaaagreat", sum := "b1b044b51dc3368814c6ac2b046dfc48101e81b5536005cac0353a9586a0715d", func := "shard/shardlaw13.HistoryWrongTurn", spec := "historyWrongTurn", unfollowed := true, recurses := true, apart := false }
def HistoryWrongTurnSaid : Prop := historyWrongTurnRow.holds Tryz.pinned (OpenSpec.ofChange historyWrongTurnSpec)

/-- ITS FALSE NEIGHBOUR: 'it returns false'. Refute it at one input. -/
def historyWrongTurnWrong : ChangeSpec := { name := "historyWrongTurn", fn := fun _ => fun
  | [d1, d2, d3] => { results := [.lit (.bool false)], args := [d1, d2, d3] }
  | _ => none }
def HistoryWrongTurnWrongFalsely : Prop := historyWrongTurnRow.holds Tryz.pinned (OpenSpec.ofChange historyWrongTurnWrong)

/-- 'shardlaw13.HistoryKeeps': WHATEVER THE INPUT: true; the input reads as it did. -/
def historyKeepsSpec : ChangeSpec := { name := "historyKeeps", fn := fun _ => fun
  | [d] => { results := [.lit (.bool true)], args := [d] }
  | _ => none }
def historyKeepsRow : OpenClaim := { program := "ytmemeaaccgmeaaagreat", sum := "b1b044b51dc3368814c6ac2b046dfc48101e81b5536005cac0353a9586a0715d", func := "shard/shardlaw13.HistoryKeeps", spec := "historyKeeps", unfollowed := true, recurses := true, apart := false }
def HistoryKeepsSaid : Prop := historyKeepsRow.holds Tryz.pinned (OpenSpec.ofChange historyKeepsSpec)

/-- ITS FALSE NEIGHBOUR: 'it returns false'. Refute it at one input. -/
def historyKeepsWrong : ChangeSpec := { name := "historyKeeps", fn := fun _ => fun
  | [d] => { results := [.lit (.bool false)], args := [d] }
  | _ => none }
def HistoryKeepsWrongFalsely : Prop := historyKeepsRow.holds Tryz.pinned (OpenSpec.ofChange historyKeepsWrong)

/-- 'shardlaw13.HistoryOrder': WHATEVER THE INPUT: true; the input reads as it did. -/
def historyOrderSpec : ChangeSpec := { name := "historyOrder", fn := fun _ => fun
  | [d] => { results := [.lit (.bool true)], args := [d] }
  | _ => none }
def historyOrderRow : OpenClaim := { program := "ytmemeaaccgmeaaagreat", sum := "b1b044b51dc3368814c6ac2b046dfc48101e81b5536005cac0353a9586a0715d", func := "shard/shardlaw13.HistoryOrder", spec := "historyOrder", unfollowed := true, recurses := true, apart := false }
def HistoryOrderSaid : Prop := historyOrderRow.holds Tryz.pinned (OpenSpec.ofChange historyOrderSpec)

/-- ITS FALSE NEIGHBOUR: 'it returns false'. Refute it at one input. -/
def historyOrderWrong : ChangeSpec := { name := "historyOrder", fn := fun _ => fun
  | [d] => { results := [.lit (.bool false)], args := [d] }
  | _ => none }
def HistoryOrderWrongFalsely : Prop := historyOrderRow.holds Tryz.pinned (OpenSpec.ofChange historyOrderWrong)

/-- 'shardlaw13.HistoryUnfolds': WHATEVER THE INPUT: true; the input reads as it did. -/
def historyUnfoldsSpec : ChangeSpec := { name := "historyUnfolds", fn := fun _ => fun
  | [d] => { results := [.lit (.bool true)], args := [d] }
  | _ => none }
def historyUnfoldsRow : OpenClaim := { program := "ytmemeaaccgmeaaagreat", sum := "b1b044b51dc3368814c6ac2b046dfc48101e81b5536005cac0353a9586a0715d", func := "shard/shardlaw13.HistoryUnfolds", spec := "historyUnfolds", unfollowed := true, recurses := true, apart := false }
def HistoryUnfoldsSaid : Prop := historyUnfoldsRow.holds Tryz.pinned (OpenSpec.ofChange historyUnfoldsSpec)

/-- ITS FALSE NEIGHBOUR: 'it returns false'. Refute it at one input. -/
def historyUnfoldsWrong : ChangeSpec := { name := "historyUnfolds", fn := fun _ => fun
  | [d] => { results := [.lit (.bool false)], args := [d] }
  | _ => none }
def HistoryUnfoldsWrongFalsely : Prop := historyUnfoldsRow.holds Tryz.pinned (OpenSpec.ofChange historyUnfoldsWrong)

/-- 'shardlaw13.HistoryOpens': WHATEVER THE INPUT: true; the input reads as it did. -/
def historyOpensSpec : ChangeSpec := { name := "historyOpens", fn := fun _ => fun
  | [d] => { results := [.lit (.bool true)], args := [d] }
  | _ => none }
def historyOpensRow : OpenClaim := { program := "ytmemeaaccgmeaaagreat", sum := "b1b044b51dc3368814c6ac2b046dfc48101e81b5536005cac0353a9586a0715d", func := "shard/shardlaw13.HistoryOpens", spec := "historyOpens", unfollowed := true, recurses := true, apart := false }
def HistoryOpensSaid : Prop := historyOpensRow.holds Tryz.pinned (OpenSpec.ofChange historyOpensSpec)

/-- ITS FALSE NEIGHBOUR: 'it returns false'. Refute it at one input. -/
def historyOpensWrong : ChangeSpec := { name := "historyOpens", fn := fun _ => fun
  | [d] => { results := [.lit (.bool false)], args := [d] }
  | _ => none }
def HistoryOpensWrongFalsely : Prop := historyOpensRow.holds Tryz.pinned (OpenSpec.ofChange historyOpensWrong)

/-- 'shardlaw13.HistoryTimes': WHATEVER THE INPUT: true; the input reads as it did. -/
def historyTimesSpec : ChangeSpec := { name := "historyTimes", fn := fun _ => fun
  | [d1, d2] => { results := [.lit (.bool true)], args := [d1, d2] }
  | _ => none }
def historyTimesRow : OpenClaim := { program := "ytmemeaaccgmeaaagreat", sum := "b1b044b51dc3368814c6ac2b046dfc48101e81b5536005cac0353a9586a0715d", func := "shard/shardlaw13.HistoryTimes", spec := "historyTimes", unfollowed := true, recurses := true, apart := false }
def HistoryTimesSaid : Prop := historyTimesRow.holds Tryz.pinned (OpenSpec.ofChange historyTimesSpec)

/-- ITS FALSE NEIGHBOUR: 'it returns false'. Refute it at one input. -/
def historyTimesWrong : ChangeSpec := { name := "historyTimes", fn := fun _ => fun
  | [d1, d2] => { results := [.lit (.bool false)], args := [d1, d2] }
  | _ => none }
def HistoryTimesWrongFalsely : Prop := historyTimesRow.holds Tryz.pinned (OpenSpec.ofChange historyTimesWrong)

/- THE SECOND FORM. 'bulk': how many values and letters a reading holds, each counted each time it is reached (what is shared counts as often as it is met; a slice's spare places count too). A statement '..UptoSaid' is the law's where the arguments, and the package variables that the reading takes, are together of bulk at most 1048576: NARROWER than '..Said'. Prove '..Said' where nothing that the law and all that it calls make is longer than what came in: it says more and counts as full. Else prove '..UptoSaid'. A law counts once. -/
mutual
def uptoBulk {H : Type} : DataW H → Nat
  | .lit (.string bytes) => bytes.length + 1
  | .lit _ => 1
  | .nil => 1
  | .ptr d => uptoBulk d + 1
  | .slice elems spare => uptoBulkAll elems + uptoBulkAll spare + 1
  | .agg parts => uptoBulkAll parts + 1
  | .iface _ d => uptoBulk d + 1
  | .map entries => uptoBulkEntries entries + 1
  | .held _ => 1
def uptoBulkAll {H : Type} : List (DataW H) → Nat
  | [] => 0
  | d :: r => uptoBulk d + uptoBulkAll r
def uptoBulkEntries {H : Type} : List (Lit × DataW H) → Nat
  | [] => 0
  | x :: r => uptoBulkEntry x + uptoBulkEntries r
def uptoBulkEntry {H : Type} : Lit × DataW H → Nat
  | (.string bytes, d) => bytes.length + uptoBulk d + 1
  | (_, d) => uptoBulk d + 1
 end
def uptoSmall : (H : Type) → List (DataW H) → Bool := fun _ ds => decide (uptoBulkAll ds ≤ 1048576)
def OpenSpec.upto (s : _root_.Go.ChangeSpec) : _root_.Go.OpenSpec := { _root_.Go.OpenSpec.ofChange s with cond := some uptoSmall }

/-- 'shardlaw13.HistoryChecks', WHERE WHAT IT READS IS OF BULK AT MOST 1048576: true; the input reads as it did. -/
def historyChecksUptoRow : OpenClaim := { program := "ytmemeaaccgmeaaagreat", sum := "b1b044b51dc3368814c6ac2b046dfc48101e81b5536005cac0353a9586a0715d", func := "shard/shardlaw13.HistoryChecks", spec := "historyChecks", unfollowed := true, recurses := true, apart := false, narrowed := true }
def HistoryChecksUptoSaid : Prop := historyChecksUptoRow.holds Tryz.pinned (OpenSpec.upto historyChecksSpec)

/-- 'shardlaw13.HistoryFolds', WHERE WHAT IT READS IS OF BULK AT MOST 1048576: true; the input reads as it did. -/
def historyFoldsUptoRow : OpenClaim := { program := "ytmemeaaccgmeaaagreat", sum := "b1b044b51dc3368814c6ac2b046dfc48101e81b5536005cac0353a9586a0715d", func := "shard/shardlaw13.HistoryFolds", spec := "historyFolds", unfollowed := true, recurses := true, apart := false, narrowed := true }
def HistoryFoldsUptoSaid : Prop := historyFoldsUptoRow.holds Tryz.pinned (OpenSpec.upto historyFoldsSpec)

/-- 'shardlaw13.HistoryWrongTurn', WHERE WHAT IT READS IS OF BULK AT MOST 1048576: true; the input reads as it did. -/
def historyWrongTurnUptoRow : OpenClaim := { program := "ytmemeaaccgmeaaagreat", sum := "b1b044b51dc3368814c6ac2b046dfc48101e81b5536005cac0353a9586a0715d", func := "shard/shardlaw13.HistoryWrongTurn", spec := "historyWrongTurn", unfollowed := true, recurses := true, apart := false, narrowed := true }
def HistoryWrongTurnUptoSaid : Prop := historyWrongTurnUptoRow.holds Tryz.pinned (OpenSpec.upto historyWrongTurnSpec)

/-- 'shardlaw13.HistoryKeeps', WHERE WHAT IT READS IS OF BULK AT MOST 1048576: true; the input reads as it did. -/
def historyKeepsUptoRow : OpenClaim := { program := "ytmemeaaccgmeaaagreat", sum := "b1b044b51dc3368814c6ac2b046dfc48101e81b5536005cac0353a9586a0715d", func := "shard/shardlaw13.HistoryKeeps", spec := "historyKeeps", unfollowed := true, recurses := true, apart := false, narrowed := true }
def HistoryKeepsUptoSaid : Prop := historyKeepsUptoRow.holds Tryz.pinned (OpenSpec.upto historyKeepsSpec)

/-- 'shardlaw13.HistoryOrder', WHERE WHAT IT READS IS OF BULK AT MOST 1048576: true; the input reads as it did. -/
def historyOrderUptoRow : OpenClaim := { program := "ytmemeaaccgmeaaagreat", sum := "b1b044b51dc3368814c6ac2b046dfc48101e81b5536005cac0353a9586a0715d", func := "shard/shardlaw13.HistoryOrder", spec := "historyOrder", unfollowed := true, recurses := true, apart := false, narrowed := true }
def HistoryOrderUptoSaid : Prop := historyOrderUptoRow.holds Tryz.pinned (OpenSpec.upto historyOrderSpec)

/-- 'shardlaw13.HistoryUnfolds', WHERE WHAT IT READS IS OF BULK AT MOST 1048576: true; the input reads as it did. -/
def historyUnfoldsUptoRow : OpenClaim := { program := "ytmemeaaccgmeaaagreat", sum := "b1b044b51dc3368814c6ac2b046dfc48101e81b5536005cac0353a9586a0715d", func := "shard/shardlaw13.HistoryUnfolds", spec := "historyUnfolds", unfollowed := true, recurses := true, apart := false, narrowed := true }
def HistoryUnfoldsUptoSaid : Prop := historyUnfoldsUptoRow.holds Tryz.pinned (OpenSpec.upto historyUnfoldsSpec)

/-- 'shardlaw13.HistoryOpens', WHERE WHAT IT READS IS OF BULK AT MOST 1048576: true; the input reads as it did. -/
def historyOpensUptoRow : OpenClaim := { program := "ytmemeaaccgmeaaagreat", sum := "b1b044b51dc3368814c6ac2b046dfc48101e81b5536005cac0353a9586a0715d", func := "shard/shardlaw13.HistoryOpens", spec := "historyOpens", unfollowed := true, recurses := true, apart := false, narrowed := true }
def HistoryOpensUptoSaid : Prop := historyOpensUptoRow.holds Tryz.pinned (OpenSpec.upto historyOpensSpec)

/-- 'shardlaw13.HistoryTimes', WHERE WHAT IT READS IS OF BULK AT MOST 1048576: true; the input reads as it did. -/
def historyTimesUptoRow : OpenClaim := { program := "ytmemeaaccgmeaaagreat", sum := "b1b044b51dc3368814c6ac2b046dfc48101e81b5536005cac0353a9586a0715d", func := "shard/shardlaw13.HistoryTimes", spec := "historyTimes", unfollowed := true, recurses := true, apart := false, narrowed := true }
def HistoryTimesUptoSaid : Prop := historyTimesUptoRow.holds Tryz.pinned (OpenSpec.upto historyTimesSpec)

end Rows
end Go.Proofs.YtmemeaaccgmeaaaGreat
