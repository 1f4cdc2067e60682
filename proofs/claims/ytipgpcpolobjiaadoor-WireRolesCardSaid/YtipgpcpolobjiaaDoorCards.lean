/-
  DERIVED. GIVEN WITH THE SEED: THE CARDS: each row of YtipgpcpolobjiaaDoorRows.lean that lists a variable, with what it lists TIED to the program's text (the seventh form; the later family's looks); each row that meets fmt, with fmt's text TOLD by the authors' own Lean function (tested against real Go, not proved from fmt's source: count such statements apart). THE CARD IS WHAT COUNTS. Prove the row's statement (the work); the ties are given (YtipgpcpolobjiaaDoorTie.lean); close each card by the builder's one call (the guide's Derived/Test/ToyasCard.lean, 'card_holds'). Laid BY PROGRAM, IN A SANDBOX (cutbox-door.mjs). By AI agents, Wed Nov 11 2026. No macro, syntax, notation, axiom, sorry.
-/
import Derived.Test.YtipgpcpolobjiaaDoorRows
import GoSem.ClaimSeven
namespace Go.Proofs.YtipgpcpolobjiaaDoor
namespace Rows

/-- THE TIED CARD OF 'shardlaw3.WireRoles'. -/
def wireRolesCard : Claim7 := { stood := { row := wireRolesRow, standIns := [], harness := (true, "b00e6ab816630069a05484e65d846795a859c27a46a6a81ed1106713df1afe28"), looks := false }, kinds := [], alts := [], laidByText := true, laidKinds := [.data], laidTests := true, laidLooks := .later }
def WireRolesCardSaid : Prop := Claim7.holds Tryd.pinned (.plain (OpenSpec.ofChange wireRolesSpec)) wireRolesCard

/-- THE SECOND FORM's CARD OF 'shardlaw3.WireRoles'. -/
def wireRolesUptoCard : Claim7 := { stood := { row := wireRolesUptoRow, standIns := [], harness := (true, "b00e6ab816630069a05484e65d846795a859c27a46a6a81ed1106713df1afe28"), looks := false }, kinds := [], alts := [], laidByText := true, laidKinds := [.data], laidTests := true, laidLooks := .later }
def WireRolesUptoCardSaid : Prop := Claim7.holds Tryd.pinned (.plain (OpenSpec.upto wireRolesSpec)) wireRolesUptoCard
end Rows
end Go.Proofs.YtipgpcpolobjiaaDoor
