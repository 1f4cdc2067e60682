/- For every rune number: the program's Encode gives the document's bytes and error, and Plain tells whether the document hides it. -/
import Derived.Test.YtplhcnlpfoiieaaPureText1
import Derived.Test.YtplhcnlpfoiieaaPx73
set_option linter.unusedVariables false
set_option linter.unusedSimpArgs false
namespace Go.Proofs.Ytplhcnlpfoiieaa.Pure
open Go.RowKit Go.Proofs.Ytplhcnlpfoiieaa.P Go.Proofs.YtplhcnlpfoiieaaW.PrintWords Go.Proofs.YtplhcnlpfoiieaaW.PrintLast Go.Proofs.Ytplhcnlpfoiieaa.PL
theorem TextEncodes : shardlaw1_TextEncodes.Pure := by
  intro r hr
  have hb : -2147483648 ≤ r ∧ r ≤ 2147483647 := by simpa [Lit.wf, IntKind.min, IntKind.max, IntKind.signed, IntKind.bits] using hr
  refine ⟨30, ?_⟩
  unfold shardlaw1_TextEncodes.f text_Plain.f
  rw [wrap64_id (by omega) (by omega), T1.tEncode 30 r (by omega), T1.rEncode 30 r (by omega) hb, T1.isHidden 30 r (by omega), T1.Hidden 30 r (by omega)]
  simp only [Option.bind_some, if_true, shardlaw1_num.f]
  simp
end Go.Proofs.Ytplhcnlpfoiieaa.Pure
