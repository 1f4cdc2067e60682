/- What is read meets the conditions of the law LinearMerges. -/
import Derived.Test.YtdjdbjcapenjeaaPPre
set_option linter.unusedVariables false
namespace Go.Proofs.Ytdjdbjcapenjeaa.PPreM
open Go Go.Proofs.Ytdjdbjcapenjeaa.Dx Go.Proofs.Ytdjdbjcapenjeaa.readsD
theorem PreLinearMerges (cs : List D30) (o : List (List Int)) (w : Wf (.sl T30) cs) (z : Sz (.sl T30) cs ≤ 1048576) (w1 : Wf (.sl (.sl (.int .i64))) o) (z1 : Sz (.sl (.sl (.int .i64))) o ≤ 1048576) :
    AllP [cs.length ≤ LB, ∀ c ∈ cs, C.F9.LC c] := by
  obtain ⟨h1, h2, h3⟩ := PPre.calls_pre cs w z
  exact ⟨h1, h2, trivial⟩
end Go.Proofs.Ytdjdbjcapenjeaa.PPreM
