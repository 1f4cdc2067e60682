/- May a call be: the program's answer and the document's. -/
import Derived.Test.YtmemeaaccgmeaaaGreatB
import Derived.Test.YtmemeaaccgmeaaaGreatHP
set_option linter.unusedVariables false
set_option linter.unusedSimpArgs false
namespace Go.Proofs.YtmemeaaccgmeaaaGreat.PB
open Go Go.Proofs.YtmemeaaccgmeaaaGreat Go.Proofs.YtmemeaaccgmeaaaGreat.Dx Go.Proofs.YtmemeaaccgmeaaaGreat.W Go.Proofs.YtmemeaaccgmeaaaGreat.Y Go.Proofs.YtmemeaaccgmeaaaGreat.HP
abbrev possible := B.F45.val
abbrev Possible := B.F46.val
/-- Numbers of the sizes that they are read with. -/
structure RG (c : Cl) : Prop where
  w : 0 ≤ c.1 ∧ c.1 ≤ 255
  k : 0 ≤ c.2.2.1.1 ∧ c.2.2.1.1 ≤ 255
  s : 0 ≤ c.2.2.2.1 ∧ c.2.2.2.1 ≤ 255
  h : 0 ≤ c.2.2.1.2.2.1
theorem client_eq {a : Int} (h : 0 ≤ a ∧ a ≤ 255) : A.F55.val a = A.F74.val a := by
  unfold A.F55.val A.F74.val W.F83.val
  by_cases h1 : a < 16
  · rw [decide_eq_true h1, decide_eq_false (show ¬ a ≥ 16 by omega)]; rfl
  · rw [decide_eq_false h1, decide_eq_true (show a ≥ 16 by omega), cond_false, cond_true]
    by_cases h2 : a < 32
    · rw [decide_eq_true h2, decide_eq_true (show a ≤ 31 by omega)]; rfl
    · rw [decide_eq_false h2, decide_eq_false (show ¬ a ≤ 31 by omega), cond_false]
      cases a == 32 <;> rfl
theorem client_r {a : Int} (h : A.F55.val a = true) : 16 ≤ a ∧ a ≤ 31 := by
  unfold A.F55.val W.F83.val at h
  by_cases h1 : a < 16
  · rw [decide_eq_true h1] at h; exact absurd (show false = true from h) Bool.false_ne_true
  · rw [decide_eq_false h1, cond_false] at h
    by_cases h2 : a < 32
    · omega
    · rw [decide_eq_false h2, cond_false] at h
      cases h3 : a == 32 <;> (rw [h3] at h; exact absurd (show false = true from h) Bool.false_ne_true)
theorem asked_eq (r : D52) (q : Int) : B.F72.val r q = B.F75.val r q := by
  unfold B.F72.val B.F75.val
  by_cases h1 : r.1 ≥ 1
  · by_cases h5 : r.1 ≤ 5
    · rw [decide_eq_true h1, decide_eq_true h5, cond_true, cond_true, cond_true, cond_true, YU.F78.chkD_eq _ (show r.1 ≠ 9 by omega) (show r.1 ≠ 12 by omega)]; rfl
    · rw [decide_eq_false h5]; rfl
  · rw [decide_eq_false h1]; rfl
theorem asked_r {r : D52} {q : Int} (h : B.F72.val r q = true) : 1 ≤ r.1 ∧ r.1 ≤ 5 ∧ 0 < q := by
  unfold B.F72.val at h
  by_cases h1 : r.1 ≥ 1
  · by_cases h5 : r.1 ≤ 5
    · refine ⟨h1, h5, ?_⟩
      rw [decide_eq_true h1, decide_eq_true h5, cond_true, cond_true, beq_iff_eq] at h
      apply Classical.byContradiction
      intro hq
      obtain ⟨k, ky, hi, va, old, has, lim, ⟨⟩⟩ := r
      have : k = 1 ∨ k = 2 ∨ k = 3 ∨ k = 4 ∨ k = 5 := by dsimp only at h1 h5; omega
      have hq' : ¬ q > 0 := hq
      rcases this with rfl | rfl | rfl | rfl | rfl
      · change V.F82.K1.val q ky hi va old has 0 0 0 0 0 0 lim [] [] [] = 0 at h
        unfold V.F82.K1.val at h
        rw [decide_eq_false hq'] at h; exact absurd (show (35 : Int) = 0 from h) (by decide)
      · change V.F82.K2.val q ky hi va old has 0 0 0 0 0 0 lim [] [] [] = 0 at h
        unfold V.F82.K2.val at h
        rw [decide_eq_false hq'] at h; exact absurd (show (35 : Int) = 0 from h) (by decide)
      · change V.F82.K3.val q ky hi va old has 0 0 0 0 0 0 lim [] [] [] = 0 at h
        unfold V.F82.K3.val at h
        rw [decide_eq_false hq'] at h; exact absurd (show (35 : Int) = 0 from h) (by decide)
      · change V.F82.K4.val q ky hi va old has 0 0 0 0 0 0 lim [] [] [] = 0 at h
        unfold V.F82.K4.val at h
        rw [decide_eq_false hq'] at h; exact absurd (show (35 : Int) = 0 from h) (by decide)
      · change V.F82.K5.val q ky hi va old has 0 0 0 0 0 0 lim [] [] [] = 0 at h
        unfold V.F82.K5.val at h
        rw [decide_eq_false hq'] at h; exact absurd (show (35 : Int) = 0 from h) (by decide)
    · rw [decide_eq_true h1, decide_eq_false h5] at h; cases h
  · rw [decide_eq_false h1] at h; cases h
theorem fit (c : Cl) (h : possible c = true) : Fit c := by
  unfold possible B.F45.val at h
  cases h1 : A.F55.val c.1 with
  | false => rw [h1] at h; cases h
  | true =>
    cases h2 : B.F72.val c.2.2.1 c.2.1 with
    | false => rw [h1, h2] at h; cases h
    | true =>
      obtain ⟨w1, w2⟩ := client_r h1
      refine ⟨w1, w2, ?_, (asked_r h2).2.2⟩
      rw [h1, h2, Bool.not_true, cond_false, cond_false] at h
      by_cases h3 : c.2.2.2.2.2.1 < 0
      · rw [decide_eq_true h3] at h; cases h
      · show 0 ≤ c.2.2.2.2.2.1; omega
theorem reply5 (st : Int) (va : List Int) : B.F76.val 5 st va = ((st == 1) && ((va.length : Int) == 0)) := by
  unfold B.F76.val
  cases va with
  | cons x r =>
    rw [decide_eq_true (show (((x :: r).length : Nat) : Int) > 0 by rw [List.length_cons]; omega), show ((((x :: r).length : Nat) : Int) == 0) = false by rw [beq_eq_false_iff_ne, List.length_cons]; omega, Bool.and_false]; rfl
  | nil =>
    rw [decide_eq_false (show ¬ (([] : List Int).length : Int) > 0 by decide), cond_false, YU.F78.chkD_eq _ (show (6 : Int) ≠ 9 by decide) (show (6 : Int) ≠ 12 by decide)]
    change ((bif bad6 1 5 st then (35 : Int) else _) == 0) = _
    have hs : st = 1 ∨ st = 2 ∨ st = 3 ∨ st = 4 ∨ (st ≠ 1 ∧ st ≠ 2 ∧ st ≠ 3 ∧ st ≠ 4) := by omega
    rcases hs with rfl | rfl | rfl | rfl | ⟨n1, n2, n3, n4⟩
    · rfl
    · rfl
    · rfl
    · rfl
    · have e1 : (st == 1) = false := by simpa using n1
      have e2 : (st == 2) = false := by simpa using n2
      have e3 : (st == 3) = false := by simpa using n3
      have e4 : (st == 4) = false := by simpa using n4
      unfold bad6
      rw [e1, e2, e3, e4]; rfl
theorem reply_eq {kd : Int} (h1 : 1 ≤ kd) (h4 : kd ≤ 4) (st : Int) (va : List Int) : B.F73.val kd st va = (bif decide ((va.length : Int) > 64) then false else B.F76.val kd st va) := by
  have e : B.F73.val kd st va = B.F76.val kd st va := by
    unfold B.F73.val B.F76.val
    have hw : IntKind.u8.wrap kd = kd := by
      show kd % 256 = kd
      omega
    rw [hw, YU.F78.chkD_eq _ (show (6 : Int) ≠ 9 by decide) (show (6 : Int) ≠ 12 by decide)]
  by_cases hl : (va.length : Int) > 64
  · rw [decide_eq_true hl, cond_true]
    unfold B.F73.val
    rw [decide_eq_true (show (va.length : Int) > 0 by omega), cond_true]
    by_cases hk : kd = 1
    · subst hk
      by_cases hs : st = 1
      · subst hs
        change (V.F82.K6_1_1.val 1 0 0 va [] false 0 0 0 0 0 [] [] [] == 0) = false
        unfold V.F82.K6_1_1.val
        rw [decide_eq_false (show ¬ (va.length : Int) ≤ 64 by omega)]; rfl
      · rw [show (st != 1) = true by simpa using hs]; rfl
    · rw [show (kd != 1) = true by simpa using hk]; rfl
  · rw [decide_eq_false hl, cond_false, e]
theorem poss_eq (c : Cl) (g : RG c) : possible c = Possible c := by
  unfold possible Possible B.F45.val B.F46.val
  rw [client_eq g.w, asked_eq]
  cases h1 : A.F74.val c.1 with
  | false => rfl
  | true =>
    cases h2 : B.F75.val c.2.2.1 c.2.1 with
    | false => rfl
    | true =>
      rw [← asked_eq] at h2
      obtain ⟨k1, k5, _⟩ := asked_r h2
      rw [show IntKind.i64.wrap c.2.2.1.1 = c.2.2.1.1 from w64 (by omega) (by omega)]
      by_cases hk : c.2.2.1.1 = 5
      · rw [show (c.2.2.1.1 == 5) = true by simpa using hk, cond_true, hk, reply5]
        cases decide (c.2.2.2.2.2.1 < 0) <;> cases decide (c.2.2.2.2.2.1 > 4611686018427387904) <;> cases (c.2.2.2.2.2.2.1 == -1) <;> cases decide (c.2.2.2.2.2.2.1 ≤ c.2.2.2.2.2.1) <;> cases decide (c.2.2.2.2.2.2.1 > 4611686018427387904) <;> try rfl
        cases hl : decide ((c.2.2.2.2.1.length : Int) > 64) with
        | false => cases (c.2.2.2.1 == 1) <;> rfl
        | true =>
          rw [decide_eq_true_eq] at hl
          rw [show ((c.2.2.2.2.1.length : Int) == 0) = false by rw [beq_eq_false_iff_ne]; omega]
          cases (c.2.2.2.1 == 1) <;> rfl
      · rw [show (c.2.2.1.1 == 5) = false by simpa using hk, cond_false, reply_eq k1 (by omega)]
#print axioms poss_eq
end Go.Proofs.YtmemeaaccgmeaaaGreat.PB
