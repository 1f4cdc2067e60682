/- What package-level tables hold, and that it stays so behind whatever leaves the elder memory as it is. -/
import Derived.Test.YtplhcnlpfoiieaaDoorProg
import Derived.Lib.LaidTab
import Derived.Below
set_option linter.unusedVariables false
namespace Go.Proofs.YtplhcnlpfoiieaaDoor.P
open Go.RowKit

/-- The cells of a package-level table. -/
def CellsAt (g : Nat) (k : IntKind) (zs : List Int) (w : World) : Prop := g < w.heap.size ∧ ∀ i, i < zs.length → w.cell? ⟨g, i, none⟩ = some (.int k (zs.getD i 0))
theorem CellsAt.below {g : Nat} {k : IntKind} {zs : List Int} {w w' : World} (h : CellsAt g k zs w) (hb : Below w.heap.size w w') : CellsAt g k zs w' := by
  refine ⟨Nat.lt_of_lt_of_le h.1 hb.size, fun i hi => ?_⟩
  rw [← h.2 i hi]
  exact hb.cell (p := ⟨g, i, none⟩) h.1
end Go.Proofs.YtplhcnlpfoiieaaDoor.P
