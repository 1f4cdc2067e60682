/- Columns: width, clipping and padding are the document's. -/
import Derived.Test.YtplhcnlpfoiieaaPureText5
import Derived.Test.YtplhcnlpfoiieaaPx70
set_option linter.unusedVariables false
namespace Go.Proofs.Ytplhcnlpfoiieaa.Pure
open Go.RowKit Go.Proofs.Ytplhcnlpfoiieaa.P Go.Proofs.YtplhcnlpfoiieaaW.PrintWords Go.Proofs.YtplhcnlpfoiieaaW.PrintLast Go.Proofs.Ytplhcnlpfoiieaa.PL

theorem TextColumns (s : ByteArray) (c side : Int) (hs : s.size ≤ 1048576) (hc : (Lit.int .i64 c).wf = true) (hd : (Lit.int .i64 side).wf = true) : ∃ k, shardlaw1_TextColumns.f k s c side = some true := by
  have hc2 : c ≤ 9223372036854775807 := by
    have : -9223372036854775808 ≤ c ∧ c ≤ 9223372036854775807 := by simpa [Lit.wf, IntKind.min, IntKind.max, IntKind.signed, IntKind.bits] using hc
    exact this.2
  refine ⟨s.size + 500, ?_⟩
  unfold shardlaw1_TextColumns.f
  rw [T4.tWidth s (by omega) _ (by omega), T5.tClip s (by omega) c hc2 _ (by omega), T5.tPad s (by omega) c side _ (by omega), T5.rPad s (by omega) c side _ (by omega), T5.rClip s (by omega) c hc2 _ (by omega), T4.rWidth s (by omega) _ (by omega)]
  simp [shardlaw1_num.f]
end Go.Proofs.Ytplhcnlpfoiieaa.Pure
