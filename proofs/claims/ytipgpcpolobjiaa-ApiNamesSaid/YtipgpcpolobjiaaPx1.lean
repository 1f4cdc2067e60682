-- Written by printx.py (this work's driver over the kit's print) out of the translation; Lean checks it.
import Derived.Test.YtipgpcpolobjiaaPx0
namespace Go.Proofs.Ytipgpcpolobjiaa.P
open Go.RowKit Go.Proofs.YtipgpcpolobjiaaW.PrintWords Go.Proofs.YtipgpcpolobjiaaW.PrintLast Go.Proofs.YtipgpcpolobjiaaW.PrintMore
attribute [local go_sem] max2_int min2_int max_two min_two max_three min_three max_four min_four   -- for this text's walks alone
set_option linter.unusedVariables false
set_option linter.unusedSimpArgs false

/-! ### shardtop_ApiNames: function 3 -/
def shardtop_ApiNames.f  : Option (Bool) := some true
set_option maxHeartbeats 8000000 in
set_option maxRecDepth 100000 in
theorem shardtop_ApiNames.calls  (r : Bool) (w : World) (h : shardtop_ApiNames.f  = some r) :
    Calls Try.prog 3 #[] w fun e w' => e = .returned (.bool r) ∧ Drawn0 w w' := by
  have H : (some true) = some r := h
  clear h
  obtain rfl := Option.some.inj H
  go_enter Try.func3, Try.ntmps3
  go_wp2
  go_ret
  exact ⟨by first | rfl | (simp; done) | (simp [*]; done), by repeat (first | exact Drawn0.refl _ | apply Drawn0.step)⟩

/-- THE ONE PURE STATEMENT of shardtop_ApiNames: yours. -/
def shardtop_ApiNames.Pure : Prop := shardtop_ApiNames.f  = some true
theorem shardtop_ApiNames.walk (P : shardtop_ApiNames.Pure)  (w : World)  :
    Calls Try.prog 3 #[] w fun e w' => e = .returned (.bool true) ∧ Below w.heap.size w w' := by
  have h := P  
  refine (shardtop_ApiNames.calls  true w h).mono ?_
  rintro e w' ⟨rfl, hd⟩
  exact ⟨rfl, hd.below⟩

end Go.Proofs.Ytipgpcpolobjiaa.P
