/- The same of every line that the form reaches. -/
import Derived.Test.YtplhcnlpfoiieaaDoorPureTextWords
set_option linter.unusedVariables false
set_option linter.unusedSimpArgs false
namespace Go.Proofs.YtplhcnlpfoiieaaDoor.Pure
open Go.RowKit Go.Proofs.YtplhcnlpfoiieaaDoor.P Go.Proofs.YtplhcnlpfoiieaaDoorW.PrintWords Go.Proofs.YtplhcnlpfoiieaaDoorW.PrintLast Go.Proofs.YtplhcnlpfoiieaaDoor.PL

theorem TextWordsAll (s : ByteArray) (hs : s.size ≤ 140737488351232) : ∃ k, shardlaw1_TextWords.f k s = some true := by
  obtain ⟨W, a, e, h1, h2, h3, -⟩ := TW.words s
  obtain ⟨X, a2, e2, i1, i2, i3, -⟩ := TW.words ((⟨#[111, 116, 104, 101, 114, 32]⟩ : ByteArray) ++ s)
  refine ⟨200000 + 2, ?_⟩
  unfold shardlaw1_TextWords.f
  rw [h2 _ (by omega), Option.bind_some, h1 _ (by omega), Option.bind_some]
  simp only []
  rw [TWL.same W (by omega) _ (by omega), Option.bind_some, if_pos rfl, if_pos trivial, shardlaw1_num.f, Option.bind_some, bne_self_eq_false]
  simp only [shardlaw1_TextWords.j0, shardlaw1_TextWords.j1]
  rw [if_neg (by decide), if_pos (by omega), i1 _ (by omega), Option.bind_some, h1 _ (by omega), Option.bind_some, i2 _ (by omega), Option.bind_some]
  simp only []
  rw [TWL.same W (by omega) _ (by omega), Option.bind_some, if_pos rfl, Option.bind_some, if_pos rfl, TWL.same X (by omega) _ (by omega), Option.bind_some, if_pos rfl]
  exact TWL.l0 s W X a e h3 i3 h1 W.length 200000 0 W (by omega) rfl (by omega)
end Go.Proofs.YtplhcnlpfoiieaaDoor.Pure
