/-
  No cell of these rows narrows 'for every input' (looked for: loops, veiled, ifaces, maps, wideKeys, modest, calm, conditions, laid).
  DERIVED. THE GIVEN ROWS OF THIS SEAT. 5 by the template 'for every input the law returns true; each argument reads behind the call as it read before'; 0 by the template 'total and deterministic' (their statements: YtdjdbjcapenjeaaTotals.lean).
  GIVEN WITH THE SEED: the statements are not yours to turn. If you find one false, say at which input.
  Laid BY PROGRAM, IN A SANDBOX (cutbox-rows.mjs): the forced cells as the released guide's own fill.sh prints them over the translation 7dc4fcdebca9da29… (all of the seat's roots in one cut). By AI agents, Wed Nov 11 2026. No macro, syntax, notation, axiom, sorry.
-/
import Derived.Test.YtdjdbjcapenjeaaChecked
import GoSem.Claim
import GoSem.ClaimJoined
import GoSem.ClaimMapViews
import Derived.JoinedTies
import Derived.KernelRfl
namespace Go.Proofs.Ytdjdbjcapenjeaa
/- THE CELL 'sum', in the pinned program and in every row, IS THE sha256 OF THE DUMP (.gsa) THAT YtdjdbjcapenjeaaProg.lean LOADS. Nothing in Lean hashes anything: it is a label: what it is worth is what the hold of that sum in a sandbox is worth. -/
noncomputable def Try.pinned : Pinned := { name := "ytdjdbjcapenjeaa", sum := "7dc4fcdebca9da294eacc920548c4bb3488919e8720c8ea45addc7fa645ac1bc", checked := Try.checked }
namespace Rows
def none {H : Type} : Left H := { results := [], args := [] }

/-- 'shardlaw14.LinearSteps': WHATEVER THE INPUT: true; the input reads as it did. -/
def linearStepsSpec : ChangeSpec := { name := "linearSteps", fn := fun _ => fun
  | [d1, d2, d3] => { results := [.lit (.bool true)], args := [d1, d2, d3] }
  | _ => none }
def linearStepsRow : OpenClaim := { program := "ytdjdbjcapenjeaa", sum := "7dc4fcdebca9da294eacc920548c4bb3488919e8720c8ea45addc7fa645ac1bc", func := "shard/shardlaw14.LinearSteps", spec := "linearSteps", apart := false }
def LinearStepsSaid : Prop := linearStepsRow.holds Try.pinned (OpenSpec.ofChange linearStepsSpec)

/-- ITS FALSE NEIGHBOUR: 'it returns false'. Refute it at one input. -/
def linearStepsWrong : ChangeSpec := { name := "linearSteps", fn := fun _ => fun
  | [d1, d2, d3] => { results := [.lit (.bool false)], args := [d1, d2, d3] }
  | _ => none }
def LinearStepsWrongFalsely : Prop := linearStepsRow.holds Try.pinned (OpenSpec.ofChange linearStepsWrong)

/-- 'shardlaw14.LinearMerges': WHATEVER THE INPUT: true; the input reads as it did. -/
def linearMergesSpec : ChangeSpec := { name := "linearMerges", fn := fun _ => fun
  | [d1, d2] => { results := [.lit (.bool true)], args := [d1, d2] }
  | _ => none }
def linearMergesRow : OpenClaim := { program := "ytdjdbjcapenjeaa", sum := "7dc4fcdebca9da294eacc920548c4bb3488919e8720c8ea45addc7fa645ac1bc", func := "shard/shardlaw14.LinearMerges", spec := "linearMerges", unfollowed := true, recurses := true, apart := false }
def LinearMergesSaid : Prop := linearMergesRow.holds Try.pinned (OpenSpec.ofChange linearMergesSpec)

/-- ITS FALSE NEIGHBOUR: 'it returns false'. Refute it at one input. -/
def linearMergesWrong : ChangeSpec := { name := "linearMerges", fn := fun _ => fun
  | [d1, d2] => { results := [.lit (.bool false)], args := [d1, d2] }
  | _ => none }
def LinearMergesWrongFalsely : Prop := linearMergesRow.holds Try.pinned (OpenSpec.ofChange linearMergesWrong)

/-- 'shardlaw14.LinearObeys': WHATEVER THE INPUT: true; the input reads as it did. -/
def linearObeysSpec : ChangeSpec := { name := "linearObeys", fn := fun _ => fun
  | [d1, d2] => { results := [.lit (.bool true)], args := [d1, d2] }
  | _ => none }
def linearObeysRow : OpenClaim := { program := "ytdjdbjcapenjeaa", sum := "7dc4fcdebca9da294eacc920548c4bb3488919e8720c8ea45addc7fa645ac1bc", func := "shard/shardlaw14.LinearObeys", spec := "linearObeys", unfollowed := true, recurses := true, apart := false }
def LinearObeysSaid : Prop := linearObeysRow.holds Try.pinned (OpenSpec.ofChange linearObeysSpec)

/-- ITS FALSE NEIGHBOUR: 'it returns false'. Refute it at one input. -/
def linearObeysWrong : ChangeSpec := { name := "linearObeys", fn := fun _ => fun
  | [d1, d2] => { results := [.lit (.bool false)], args := [d1, d2] }
  | _ => none }
def LinearObeysWrongFalsely : Prop := linearObeysRow.holds Try.pinned (OpenSpec.ofChange linearObeysWrong)

/-- 'shardlaw14.LinearKeys': WHATEVER THE INPUT: true; the input reads as it did. -/
def linearKeysSpec : ChangeSpec := { name := "linearKeys", fn := fun _ => fun
  | [d] => { results := [.lit (.bool true)], args := [d] }
  | _ => none }
def linearKeysRow : OpenClaim := { program := "ytdjdbjcapenjeaa", sum := "7dc4fcdebca9da294eacc920548c4bb3488919e8720c8ea45addc7fa645ac1bc", func := "shard/shardlaw14.LinearKeys", spec := "linearKeys", recurses := true, apart := false }
def LinearKeysSaid : Prop := linearKeysRow.holds Try.pinned (OpenSpec.ofChange linearKeysSpec)

/-- ITS FALSE NEIGHBOUR: 'it returns false'. Refute it at one input. -/
def linearKeysWrong : ChangeSpec := { name := "linearKeys", fn := fun _ => fun
  | [d] => { results := [.lit (.bool false)], args := [d] }
  | _ => none }
def LinearKeysWrongFalsely : Prop := linearKeysRow.holds Try.pinned (OpenSpec.ofChange linearKeysWrong)

/-- 'shardlaw14.LinearRight': WHATEVER THE INPUT: true; the input reads as it did. -/
def linearRightSpec : ChangeSpec := { name := "linearRight", fn := fun _ => fun
  | [d] => { results := [.lit (.bool true)], args := [d] }
  | _ => none }
def linearRightRow : OpenClaim := { program := "ytdjdbjcapenjeaa", sum := "7dc4fcdebca9da294eacc920548c4bb3488919e8720c8ea45addc7fa645ac1bc", func := "shard/shardlaw14.LinearRight", spec := "linearRight", unfollowed := true, recurses := true, apart := false }
def LinearRightSaid : Prop := linearRightRow.holds Try.pinned (OpenSpec.ofChange linearRightSpec)

/-- ITS FALSE NEIGHBOUR: 'it returns false'. Refute it at one input. -/
def linearRightWrong : ChangeSpec := { name := "linearRight", fn := fun _ => fun
  | [d] => { results := [.lit (.bool false)], args := [d] }
  | _ => none }
def LinearRightWrongFalsely : Prop := linearRightRow.holds Try.pinned (OpenSpec.ofChange linearRightWrong)

/- THE SECOND FORM. 'bulk': how many values and letters a reading holds, each counted each time it is reached (what is shared counts as often as it is met; a slice's spare places count too). A statement '..UptoSaid' is the law's where the arguments, and the package variables that the reading takes, are together of bulk at most 1048576: NARROWER than '..Said'. Prove '..Said' where nothing that the law and all that it calls make is longer than what came in: it says more and counts as full. Else prove '..UptoSaid'. A law counts once. -/
mutual
def uptoBulk {H : Type} : DataW H → Nat
  | .lit (.string bytes) => bytes.length + 1
  | .lit _ => 1
  | .nil => 1
  | .ptr d => uptoBulk d + 1
  | .slice elems spare => uptoBulkAll elems + uptoBulkAll spare + 1
  | .agg parts => uptoBulkAll parts + 1
  | .iface _ d => uptoBulk d + 1
  | .map entries => uptoBulkEntries entries + 1
  | .held _ => 1
def uptoBulkAll {H : Type} : List (DataW H) → Nat
  | [] => 0
  | d :: r => uptoBulk d + uptoBulkAll r
def uptoBulkEntries {H : Type} : List (Lit × DataW H) → Nat
  | [] => 0
  | x :: r => uptoBulkEntry x + uptoBulkEntries r
def uptoBulkEntry {H : Type} : Lit × DataW H → Nat
  | (.string bytes, d) => bytes.length + uptoBulk d + 1
  | (_, d) => uptoBulk d + 1
 end
def uptoSmall : (H : Type) → List (DataW H) → Bool := fun _ ds => decide (uptoBulkAll ds ≤ 1048576)
def OpenSpec.upto (s : _root_.Go.ChangeSpec) : _root_.Go.OpenSpec := { _root_.Go.OpenSpec.ofChange s with cond := some uptoSmall }

/-- 'shardlaw14.LinearSteps', WHERE WHAT IT READS IS OF BULK AT MOST 1048576: true; the input reads as it did. -/
def linearStepsUptoRow : OpenClaim := { program := "ytdjdbjcapenjeaa", sum := "7dc4fcdebca9da294eacc920548c4bb3488919e8720c8ea45addc7fa645ac1bc", func := "shard/shardlaw14.LinearSteps", spec := "linearSteps", apart := false, narrowed := true }
def LinearStepsUptoSaid : Prop := linearStepsUptoRow.holds Try.pinned (OpenSpec.upto linearStepsSpec)

/-- 'shardlaw14.LinearMerges', WHERE WHAT IT READS IS OF BULK AT MOST 1048576: true; the input reads as it did. -/
def linearMergesUptoRow : OpenClaim := { program := "ytdjdbjcapenjeaa", sum := "7dc4fcdebca9da294eacc920548c4bb3488919e8720c8ea45addc7fa645ac1bc", func := "shard/shardlaw14.LinearMerges", spec := "linearMerges", unfollowed := true, recurses := true, apart := false, narrowed := true }
def LinearMergesUptoSaid : Prop := linearMergesUptoRow.holds Try.pinned (OpenSpec.upto linearMergesSpec)

/-- 'shardlaw14.LinearObeys', WHERE WHAT IT READS IS OF BULK AT MOST 1048576: true; the input reads as it did. -/
def linearObeysUptoRow : OpenClaim := { program := "ytdjdbjcapenjeaa", sum := "7dc4fcdebca9da294eacc920548c4bb3488919e8720c8ea45addc7fa645ac1bc", func := "shard/shardlaw14.LinearObeys", spec := "linearObeys", unfollowed := true, recurses := true, apart := false, narrowed := true }
def LinearObeysUptoSaid : Prop := linearObeysUptoRow.holds Try.pinned (OpenSpec.upto linearObeysSpec)

/-- 'shardlaw14.LinearKeys', WHERE WHAT IT READS IS OF BULK AT MOST 1048576: true; the input reads as it did. -/
def linearKeysUptoRow : OpenClaim := { program := "ytdjdbjcapenjeaa", sum := "7dc4fcdebca9da294eacc920548c4bb3488919e8720c8ea45addc7fa645ac1bc", func := "shard/shardlaw14.LinearKeys", spec := "linearKeys", recurses := true, apart := false, narrowed := true }
def LinearKeysUptoSaid : Prop := linearKeysUptoRow.holds Try.pinned (OpenSpec.upto linearKeysSpec)

/-- 'shardlaw14.LinearRight', WHERE WHAT IT READS IS OF BULK AT MOST 1048576: true; the input reads as it did. -/
def linearRightUptoRow : OpenClaim := { program := "ytdjdbjcapenjeaa", sum := "7dc4fcdebca9da294eacc920548c4bb3488919e8720c8ea45addc7fa645ac1bc", func := "shard/shardlaw14.LinearRight", spec := "linearRight", unfollowed := true, recurses := true, apart := false, narrowed := true }
def LinearRightUptoSaid : Prop := linearRightUptoRow.holds Try.pinned (OpenSpec.upto linearRightSpec)

end Rows
end Go.Proofs.Ytdjdbjcapenjeaa
