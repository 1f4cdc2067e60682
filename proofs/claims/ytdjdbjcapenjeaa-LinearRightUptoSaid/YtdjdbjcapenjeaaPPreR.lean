/- What is read meets the conditions of the law LinearRight. -/
import Derived.Test.YtdjdbjcapenjeaaPPre
set_option linter.unusedVariables false
namespace Go.Proofs.Ytdjdbjcapenjeaa.PPreR
open Go Go.Proofs.Ytdjdbjcapenjeaa.Dx Go.Proofs.Ytdjdbjcapenjeaa.readsD
theorem PreLinearRight (cs : List D30) (w : Wf (.sl T30) cs) (z : Sz (.sl T30) cs ≤ 1048576) :
    AllP [cs.length ≤ LB, ∀ c ∈ cs, C.F9.LC c, ∀ c ∈ cs, PObeys.CB c] := by
  obtain ⟨h1, h2, h3⟩ := PPre.calls_pre cs w z
  exact ⟨h1, h2, h3, trivial⟩
end Go.Proofs.Ytdjdbjcapenjeaa.PPreR
