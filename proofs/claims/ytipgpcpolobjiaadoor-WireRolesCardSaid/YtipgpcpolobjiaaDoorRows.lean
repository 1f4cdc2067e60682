/-
  NARROWER THAN 'FOR EVERY INPUT', by the rows' own cells (each row's printed sentence says how): WireRoles: laid.
  DERIVED. THE GIVEN ROWS OF THIS SEAT. 1 by the template 'for every input the law returns true; each argument reads behind the call as it read before'; 0 by the template 'total and deterministic' (their statements: YtipgpcpolobjiaaDoorTotals.lean).
  GIVEN WITH THE SEED: the statements are not yours to turn. If you find one false, say at which input.
  Laid BY PROGRAM, IN A SANDBOX (cutbox-rows.mjs): the forced cells as the released guide's own fill.sh prints them over the translation da17c36f84d2db14… (all of the seat's roots in one cut). By AI agents, Wed Nov 11 2026. No macro, syntax, notation, axiom, sorry.
-/
import Derived.Test.YtipgpcpolobjiaaDoorChecked
import GoSem.Claim
import GoSem.ClaimJoined
import GoSem.ClaimMapViews
import Derived.JoinedTies
import Derived.KernelRfl
namespace Go.Proofs.YtipgpcpolobjiaaDoor
/- THE CELL 'sum', in the pinned program and in every row, IS THE sha256 OF THE DUMP (.gsa) THAT YtipgpcpolobjiaaDoorProg.lean LOADS. Nothing in Lean hashes anything: it is a label: what it is worth is what the hold of that sum in a sandbox is worth. -/
noncomputable def Tryd.pinned : Pinned := { name := "ytipgpcpolobjiaadoor", sum := "da17c36f84d2db14ba162257378958a6df82e258d934a1061507ed31bb1c12c8", checked := Tryd.checked }
namespace Rows
def none {H : Type} : Left H := { results := [], args := [] }

/- WHAT THE LISTED PACKAGE-LEVEL VARIABLES READ AS WHEN THE CALL BEGINS. Each datum BY PROGRAM (the guide's laid-datum.mjs) off the statement by which the dump's own 'gosem.cut.vars' lays the variable. In a bare row this is a premise. The card (YtipgpcpolobjiaaDoorCards.lean) ties it to the program's text. -/
def laid_shard_shardref3_words {H : Type} : DataW H := .agg [.lit (.string []), .lit (.string [103, 101, 116]), .lit (.string [115, 101, 116]), .lit (.string [100, 101, 108, 101, 116, 101]), .lit (.string [99, 97, 115]), .lit (.string [115, 99, 97, 110]), .lit (.string [114, 101, 112, 108, 121]), .lit (.string [114, 101, 100, 105, 114, 101, 99, 116]), .lit (.string [115, 104, 97, 114, 100]), .lit (.string [100, 111, 110, 101]), .lit (.string [100, 97, 116, 97]), .lit (.string [97, 99, 107]), .lit (.string [100, 101, 108, 101, 103, 97, 116, 101])]

/-- 'shardlaw3.WireRoles': WHATEVER THE INPUT: true; the input reads as it did. -/
def wireRolesSpec : ChangeSpec := { name := "wireRoles", fn := fun _ => fun
  | [d1, d2, d3] => { results := [.lit (.bool true)], args := [d1, d2, d3] }
  | _ => none }
def wireRolesRow : OpenClaim := { program := "ytipgpcpolobjiaadoor", sum := "da17c36f84d2db14ba162257378958a6df82e258d934a1061507ed31bb1c12c8", func := "shard/shardlaw3.WireRoles", spec := "wireRoles", named := ["shard/shardref3.words"], apart := false, laid := [("shard/shardref3.words", laid_shard_shardref3_words)] }
def WireRolesSaid : Prop := wireRolesRow.holds Tryd.pinned (OpenSpec.ofChange wireRolesSpec)

/-- ITS FALSE NEIGHBOUR: 'it returns false'. Refute it at one input. -/
def wireRolesWrong : ChangeSpec := { name := "wireRoles", fn := fun _ => fun
  | [d1, d2, d3] => { results := [.lit (.bool false)], args := [d1, d2, d3] }
  | _ => none }
def WireRolesWrongFalsely : Prop := wireRolesRow.holds Tryd.pinned (OpenSpec.ofChange wireRolesWrong)

/- THE SECOND FORM. 'bulk': how many values and letters a reading holds, each counted each time it is reached (what is shared counts as often as it is met; a slice's spare places count too). A statement '..UptoSaid' is the law's where the arguments, and the package variables that the reading takes, are together of bulk at most 1048576: NARROWER than '..Said'. Prove '..Said' where nothing that the law and all that it calls make is longer than what came in: it says more and counts as full. Else prove '..UptoSaid'. A law counts once. -/
mutual
def uptoBulk {H : Type} : DataW H → Nat
  | .lit (.string bytes) => bytes.length + 1
  | .lit _ => 1
  | .nil => 1
  | .ptr d => uptoBulk d + 1
  | .slice elems spare => uptoBulkAll elems + uptoBulkAll spare + 1
  | .agg parts => uptoBulkAll parts + 1
  | .iface _ d => uptoBulk d + 1
  | .map entries => uptoBulkEntries entries + 1
  | .held _ => 1
def uptoBulkAll {H : Type} : List (DataW H) → Nat
  | [] => 0
  | d :: r => uptoBulk d + uptoBulkAll r
def uptoBulkEntries {H : Type} : List (Lit × DataW H) → Nat
  | [] => 0
  | x :: r => uptoBulkEntry x + uptoBulkEntries r
def uptoBulkEntry {H : Type} : Lit × DataW H → Nat
  | (.string bytes, d) => bytes.length + uptoBulk d + 1
  | (_, d) => uptoBulk d + 1
 end
def uptoSmall : (H : Type) → List (DataW H) → Bool := fun _ ds => decide (uptoBulkAll ds ≤ 1048576)
def OpenSpec.upto (s : _root_.Go.ChangeSpec) : _root_.Go.OpenSpec := { _root_.Go.OpenSpec.ofChange s with cond := some uptoSmall }

/-- 'shardlaw3.WireRoles', WHERE WHAT IT READS IS OF BULK AT MOST 1048576: true; the input reads as it did. -/
def wireRolesUptoRow : OpenClaim := { program := "ytipgpcpolobjiaadoor", sum := "da17c36f84d2db14ba162257378958a6df82e258d934a1061507ed31bb1c12c8", func := "shard/shardlaw3.WireRoles", spec := "wireRoles", named := ["shard/shardref3.words"], apart := false, laid := [("shard/shardref3.words", laid_shard_shardref3_words)], narrowed := true }
def WireRolesUptoSaid : Prop := wireRolesUptoRow.holds Tryd.pinned (OpenSpec.upto wireRolesSpec)

end Rows
end Go.Proofs.YtipgpcpolobjiaaDoor
