/- What is read meets the conditions of the laws. -/
import Derived.Test.YtdjdbjcapenjeaaXDx
import Derived.Test.YtdjdbjcapenjeaaPObeys
set_option linter.unusedVariables false
namespace Go.Proofs.Ytdjdbjcapenjeaa.PPre
open Go Go.Proofs.Ytdjdbjcapenjeaa.Dx Go.Proofs.Ytdjdbjcapenjeaa.readsD
theorem sz_pos30 (c : D30) : 1 ≤ Sz T30 c := by simp only [Sz]; omega
theorem ints_le {k : IntKind} (l : List Int) : l.length ≤ Sz (.sl (.int k)) l := by
  have := sum_len (Sz (.int k)) (fun x => Nat.le_refl 1) l
  simp only [Sz] at this ⊢
  omega
theorem byteL {l : List Int} (h : Wf (.sl (.int .u8)) l) : PObeys.BY l := by
  intro b hb
  have := h b hb
  simp only [Wf, Lit.wf, IntKind.min, IntKind.max, IntKind.signed, IntKind.bits] at this
  simp at this
  omega
theorem calls_pre (cs : List D30) (w : Wf (.sl T30) cs) (z : Sz (.sl T30) cs ≤ 1048576) : cs.length ≤ LB ∧ (∀ c ∈ cs, C.F9.LC c) ∧ ∀ c ∈ cs, PObeys.CB c := by
  have z' : (cs.map (Sz T30)).sum + 1 ≤ 1048576 := z
  have hl := sum_len (Sz T30) sz_pos30 cs
  refine ⟨Nat.le_trans (show cs.length ≤ 1048576 by omega) (by decide), fun c hc => ?_, fun c hc => ?_⟩
  · have h1 : Sz T30 c ≤ 1048576 := by have := sum_mem (Sz T30) cs c hc; omega
    clear z' z hl
    obtain ⟨w, q, ⟨k, ky, hi, v, o, h, lim, _⟩, s, val, b, e, _⟩ := c
    have a1 := ints_le (k := .u8) v
    have a2 := ints_le (k := .u8) o
    have a3 := ints_le (k := .u8) val
    simp only [Sz] at h1 a1 a2 a3
    refine ⟨Nat.le_trans (show val.length ≤ 1048576 by omega) (by decide), Nat.le_trans (show v.length ≤ 1048576 by omega) (by decide), Nat.le_trans (show o.length ≤ 1048576 by omega) (by decide)⟩
  · have h1 := w c hc
    obtain ⟨w, q, ⟨k, ky, hi, v, o, h, lim, _⟩, s, val, b, e, _⟩ := c
    obtain ⟨_, _, ⟨_, _, _, g1, g2, _⟩, _, g3, _⟩ := h1
    exact ⟨byteL g3, byteL g1, byteL g2⟩
theorem PreLinearObeys (cs : List D30) (o : List Int) (w : Wf (.sl T30) cs) (z : Sz (.sl T30) cs ≤ 1048576) (w1 : Wf (.sl (.int .i64)) o) (z1 : Sz (.sl (.int .i64)) o ≤ 1048576) :
    AllP [cs.length ≤ LB, o.length ≤ LB, ∀ c ∈ cs, C.F9.LC c, ∀ c ∈ cs, PObeys.CB c] := by
  obtain ⟨h1, h2, h3⟩ := calls_pre cs w z
  have := ints_le (k := .i64) o
  exact ⟨h1, Nat.le_trans (show o.length ≤ 1048576 by omega) (by decide), h2, h3, trivial⟩
end Go.Proofs.Ytdjdbjcapenjeaa.PPre
