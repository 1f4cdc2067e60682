/- What is read meets the conditions of the law HistoryChecks. -/
import Derived.Test.YtmemeaaccgmeaaaGreatXDx
import Derived.Test.YtmemeaaccgmeaaaGreatPB
set_option linter.unusedVariables false
set_option linter.unusedSimpArgs false
namespace Go.Proofs.YtmemeaaccgmeaaaGreat.PPreH
open Go Go.Proofs.YtmemeaaccgmeaaaGreat Go.Proofs.YtmemeaaccgmeaaaGreat.Dx Go.Proofs.YtmemeaaccgmeaaaGreat.readsD Go.Proofs.YtmemeaaccgmeaaaGreat.PB
theorem sz_pos (c : D74) : 1 ≤ Sz T74 c := by simp only [Sz]; omega
theorem ints_le {k : IntKind} (l : List Int) : l.length ≤ Sz (.sl (.int k)) l := by
  have := sum_len (Sz (.int k)) (fun x => Nat.le_refl 1) l
  simp only [Sz] at this ⊢
  omega
theorem u8_r {n : Int} (h : Wf (.int .u8) n) : 0 ≤ n ∧ n ≤ 255 := by
  simp only [Wf, Lit.wf, IntKind.min, IntKind.max, IntKind.signed, IntKind.bits] at h
  simp at h
  omega
theorem u64_r {n : Int} (h : Wf (.int .u64) n) : 0 ≤ n := by
  simp only [Wf, Lit.wf, IntKind.min, IntKind.max, IntKind.signed, IntKind.bits] at h
  simp at h
  omega
theorem calls_pre (cs : List D74) (w : Wf (.sl T74) cs) (z : Sz (.sl T74) cs ≤ 1048576) : cs.length ≤ LB ∧ (∀ c ∈ cs, A.F11.LC c) ∧ ∀ c ∈ cs, RG c := by
  have z' : (cs.map (Sz T74)).sum + 1 ≤ 1048576 := z
  have hl := sum_len (Sz T74) sz_pos cs
  refine ⟨Nat.le_trans (show cs.length ≤ 1048576 by omega) (by decide), fun c hc => ?_, fun c hc => ?_⟩
  · have h1 : Sz T74 c ≤ 1048576 := by have := sum_mem (Sz T74) cs c hc; omega
    clear z' z hl
    obtain ⟨w, q, ⟨k, ky, hi, v, o, h, lim, _⟩, s, val, b, e, _⟩ := c
    have a1 := ints_le (k := .u8) v
    have a2 := ints_le (k := .u8) o
    have a3 := ints_le (k := .u8) val
    simp only [Sz] at h1 a1 a2 a3
    refine ⟨Nat.le_trans (show val.length ≤ 1048576 by omega) (by decide), Nat.le_trans (show v.length ≤ 1048576 by omega) (by decide), Nat.le_trans (show o.length ≤ 1048576 by omega) (by decide)⟩
  · have h1 := w c hc
    obtain ⟨w, q, ⟨k, ky, hi, v, o, h, lim, _⟩, s, val, b, e, _⟩ := c
    obtain ⟨gw, _, ⟨gk, _, gh, _⟩, gs, _⟩ := h1
    exact ⟨u8_r gw, u8_r gk, u8_r gs, u64_r gh⟩
theorem PreHistoryChecks (cs : List D74) (w : Wf (.sl T74) cs) (z : Sz (.sl T74) cs ≤ 1048576) : AllP [cs.length ≤ LB, ∀ c ∈ cs, A.F11.LC c, ∀ c ∈ cs, RG c] := by
  obtain ⟨h1, h2, h3⟩ := calls_pre cs w z
  exact ⟨h1, h2, h3, trivial⟩
end Go.Proofs.YtmemeaaccgmeaaaGreat.PPreH
