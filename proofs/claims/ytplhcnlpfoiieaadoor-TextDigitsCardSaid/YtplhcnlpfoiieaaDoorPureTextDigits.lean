/- Every number in every form is printed as the document says. -/
import Derived.Test.YtplhcnlpfoiieaaDoorPureText8
import Derived.Test.YtplhcnlpfoiieaaDoorPx56
set_option linter.unusedVariables false
set_option linter.unusedSimpArgs false
namespace Go.Proofs.YtplhcnlpfoiieaaDoor.Pure
open Go.RowKit Go.Proofs.YtplhcnlpfoiieaaDoor.P Go.Proofs.YtplhcnlpfoiieaaDoorW.PrintWords Go.Proofs.YtplhcnlpfoiieaaDoorW.PrintLast Go.Proofs.YtplhcnlpfoiieaaDoorW.PrintMore Go.Proofs.YtplhcnlpfoiieaaDoor.PL

namespace TD
open T3 (hd)
open T8
theorem hex (d : Nat) (h : d < 16) : shardref1_hex.f (d : Int) = some (hd d) := by
  unfold shardref1_hex.f hd
  by_cases c : d < 10
  · rw [if_pos (by omega), if_pos c, wrap64_id (by omega) (by omega)]
    congr 1; omega
  · rw [if_neg (by omega), if_neg c, wrap64_id (x := 97 + (d : Int)) (by omega) (by omega), wrap64_id (by omega) (by omega)]
    congr 1; omega
theorem l1 (x7 : List Int) (hx : x7.length < 100000) : ∀ (j k : Nat) (acc : List Int), j ≤ x7.length → j < k → acc.length + j < 1000000 → shardref1_Digits.l1 k x7 acc ((j : Int) - 1) = some (strOfNums (acc ++ (x7.take j).reverse), 0)
  | 0, k, acc, hj, hk, ha => by
    obtain ⟨k, rfl⟩ : ∃ x, k = x + 1 := ⟨k - 1, by omega⟩
    simp only [shardref1_Digits.l1]
    rw [if_neg (by omega)]
    simp
  | j + 1, k, acc, hj, hk, ha => by
    obtain ⟨k, rfl⟩ : ∃ x, k = x + 1 := ⟨k - 1, by omega⟩
    have ih := l1 x7 hx j k (acc ++ [x7[j]'(by omega)]) (by omega) (by omega) (by rw [List.length_append]; simp; omega)
    have er : rd x7 (j : Int) = x7[j]'(by omega) := by simp [rd, show j < x7.length by omega]
    simp only [shardref1_Digits.l1]
    rw [show ((j + 1 : Nat) : Int) - 1 = (j : Int) by omega, if_pos (by omega), if_pos (by omega), if_pos (by omega), if_pos (by omega), wrap64_id (by omega) (by omega), er, ih]
    have e : (x7.take (j + 1)).reverse = x7[j]'(by omega) :: (x7.take j).reverse := by rw [List.take_succ_eq_append_getElem (by omega), List.reverse_append]; rfl
    rw [e, List.append_assoc]
    rfl
theorem j3 (form : Int) (x7 : List Int) (hx : x7.length < 10000) (k : Nat) (hk : x7.length + 10 < k) : shardref1_Digits.j3 k form x7 = some (strOfNums ((if form > 0 then [48, 120] else []) ++ x7.reverse), 0) := by
  obtain ⟨k, rfl⟩ : ∃ x, k = x + 2 := ⟨k - 2, by omega⟩
  simp only [shardref1_Digits.j3, shardref1_Digits.j4]
  by_cases c : form > 0
  · rw [if_pos c, if_pos c, if_pos (by omega), Option.bind_some, if_pos (by rw [List.length_append]; simp; omega), wrap64_id (by omega) (by rw [List.length_append, List.length_append]; simp; omega)]
    have := l1 (x7 ++ [120] ++ [48]) (by simp; omega) (x7 ++ [120] ++ [48]).length k [] (Nat.le_refl _) (by simp; omega) (by simp; omega)
    rw [this, List.take_length]
    simp
  · rw [if_neg c, if_neg c, wrap64_id (by omega) (by omega)]
    have := l1 x7 (by omega) x7.length k [] (Nat.le_refl _) (by omega) (by simp; omega)
    rw [this, List.take_length]
/-- One more digit. -/
theorem step (b n : Nat) (hb : 2 ≤ b) (hb2 : b ≤ 16) (hn : n < 18446744073709551616) (form : Int) (k : Nat) (x7 : List Int) (hx : x7.length < 1000) :
    (if (b : Int) = 0 then none else ((shardref1_hex.f (wrap64 (Int.tmod (n : Int) (b : Int)))).bind fun t279 => (if x7.length < 140737488355328 then (shardref1_Digits.l0 k (IntKind.u64.wrap (Int.tdiv (n : Int) (b : Int))) form (b : Int) (x7 ++ [t279])) else (none)))) = shardref1_Digits.l0 k ((n / b : Nat) : Int) form (b : Int) (x7 ++ [hd (n % b)]) := by
  have hlt := Nat.mod_lt n (show b > 0 by omega)
  have hdv := Nat.div_le_self n b
  have e1 : (n : Int) % (b : Int) = ((n % b : Nat) : Int) := (Int.natCast_emod n b).symm
  have e2 : (n : Int) / (b : Int) = ((n / b : Nat) : Int) := (Int.natCast_ediv n b).symm
  rw [if_neg (by omega), Int.tmod_eq_emod_of_nonneg (by omega), Int.tdiv_eq_ediv_of_nonneg (by omega), e1, e2]
  clear e1 e2
  generalize n / b = q at *
  generalize n % b = r at *
  rw [wrap64_id (by omega) (by omega), hex _ (by omega), Option.bind_some, if_pos (by omega), u64_id (by omega) (by omega)]
theorem loopA (b : Nat) (hb : 2 ≤ b) (hb2 : b ≤ 16) (form : Int) (hf : form ≠ 2) : ∀ (m n k : Nat) (x7 : List Int), (m = 0 ∧ n = 0) ∨ (fits b m n ∧ 0 < n) → n < 18446744073709551616 → x7 ≠ [] → x7.length + m ≤ 30 → m + 60 < k → shardref1_Digits.l0 k (n : Int) form (b : Int) x7 = some (strOfNums ((if form > 0 then [48, 120] else []) ++ (x7 ++ (top b m n).reverse).reverse), 0)
  | 0, n, k, x7, h, hn, hx, hl, hk => by
    obtain ⟨k, rfl⟩ : ∃ x, k = x + 1 := ⟨k - 1, by omega⟩
    have h0 : n = 0 := by
      rcases h with h | h
      · exact h.2
      · have := h.1.1; omega
    have hne : x7.length ≠ 0 := fun h => hx (List.length_eq_zero_iff.1 h)
    simp only [shardref1_Digits.l0]
    rw [if_neg (by omega), if_neg (by omega), if_neg hf, j3 form x7 (by omega) k (by omega), top]
    simp
  | m + 1, n, k, x7, h, hn, hx, hl, hk => by
    obtain ⟨k, rfl⟩ : ∃ x, k = x + 1 := ⟨k - 1, by omega⟩
    have h : fits b (m + 1) n ∧ 0 < n := by
      rcases h with h | h
      · omega
      · exact h
    simp only [shardref1_Digits.l0]
    rw [if_pos (by omega), step b n hb hb2 hn form k x7 (by omega)]
    have hnext : (m = 0 ∧ n / b = 0) ∨ (fits b m (n / b) ∧ 0 < n / b) := by
      cases m with
      | zero => left; exact ⟨rfl, Nat.div_eq_of_lt (by simpa using h.1.2.1)⟩
      | succ m =>
        obtain ⟨h1, h2⟩ := fits_next hb h.1
        exact .inr ⟨h2, Nat.div_pos h1 (by omega)⟩
    rw [loopA b hb hb2 form hf m (n / b) k (x7 ++ [hd (n % b)]) hnext (Nat.lt_of_le_of_lt (Nat.div_le_self _ _) hn) (by simp) (by rw [List.length_append]; simp; omega) (by omega), top_rev]
    simp
theorem loopB : ∀ (m n k : Nat) (x7 : List Int), n < 16 ^ m → n < 18446744073709551616 → x7.length + m = 16 → m + 60 < k → shardref1_Digits.l0 k (n : Int) 2 16 x7 = some (strOfNums ([48, 120] ++ (x7 ++ (top 16 m n).reverse).reverse), 0)
  | 0, n, k, x7, h, hn, hl, hk => by
    obtain ⟨k, rfl⟩ : ∃ x, k = x + 1 := ⟨k - 1, by omega⟩
    have h0 : n = 0 := by simpa using h
    simp only [shardref1_Digits.l0]
    rw [if_neg (by omega), if_neg (by omega), if_pos trivial, if_neg (by omega), j3 2 x7 (by omega) k (by omega), top]
    simp
  | m + 1, n, k, x7, h, hn, hl, hk => by
    obtain ⟨k, rfl⟩ : ∃ x, k = x + 1 := ⟨k - 1, by omega⟩
    have st := step 16 n (by omega) (by omega) hn 2 k x7 (by omega)
    rw [show ((16 : Nat) : Int) = 16 from rfl] at st
    simp only [shardref1_Digits.l0]
    rw [st]
    have ih := loopB m (n / 16) k (x7 ++ [hd (n % 16)]) (by rw [Nat.div_lt_iff_lt_mul (by omega), ← Nat.pow_succ]; exact h) (by omega) (by rw [List.length_append]; simp; omega) (by omega)
    rw [ih, top_rev]
    have e : x7 ++ [hd (n % 16)] ++ (top 16 m (n / 16)).reverse = x7 ++ hd (n % 16) :: (top 16 m (n / 16)).reverse := by simp
    rw [e]
    repeat' split
    all_goals first | rfl | omega | contradiction | (rename_i hh; exact absurd trivial hh)
theorem first (b : Nat) (hb : 2 ≤ b) (hb2 : b ≤ 16) (form : Int) (hf : form ≠ 2) (m n k : Nat) (h : fits b m n) (hn : n < 18446744073709551616) (hm : m ≤ 25) (hk : m + 70 < k) :
    shardref1_Digits.l0 k (n : Int) form (b : Int) [] = some (strOfNums ((if form > 0 then [48, 120] else []) ++ top b m n), 0) := by
  obtain ⟨k, rfl⟩ : ∃ x, k = x + 1 := ⟨k - 1, by omega⟩
  obtain ⟨m, rfl⟩ : ∃ x, m = x + 1 := ⟨m - 1, by have := h.1; omega⟩
  simp only [shardref1_Digits.l0]
  rw [step b n hb hb2 hn form k [] (by simp)]
  have hnext : (m = 0 ∧ n / b = 0) ∨ (fits b m (n / b) ∧ 0 < n / b) := by
    cases m with
    | zero => left; exact ⟨rfl, Nat.div_eq_of_lt (by simpa using h.2.1)⟩
    | succ m =>
      obtain ⟨h1, h2⟩ := fits_next hb h
      exact .inr ⟨h2, Nat.div_pos h1 (by omega)⟩
  rw [loopA b hb hb2 form hf m (n / b) k ([] ++ [hd (n % b)]) hnext (Nat.lt_of_le_of_lt (Nat.div_le_self _ _) hn) (by simp) (by simp; omega) (by omega)]
  have e : ([] ++ [hd (n % b)] ++ (top b m (n / b)).reverse).reverse = top b (m + 1) n := by rw [top]; simp
  rw [e, List.length_nil]
  repeat' split
  all_goals first | rfl | omega | contradiction | (rename_i hh; exact absurd trivial hh)
theorem rDigits (n m10 m16 : Nat) (hn : n < 18446744073709551616) (h10 : fits 10 m10 n) (h16 : fits 16 m16 n) (hm10 : m10 ≤ 20) (hm : m16 ≤ 16) (form : Int) (k : Nat) (hk : 120 < k) :
    shardref1_Digits.f k (n : Int) form = some (if form = 0 ∨ form = 1 ∨ form = 2 then (strOfNums (dgs form m10 m16 n), 0) else ((⟨#[]⟩ : ByteArray), 2)) := by
  obtain ⟨k, rfl⟩ : ∃ x, k = x + 2 := ⟨k - 2, by omega⟩
  have bad : shardref1_Digits.j0 (k + 2) (n : Int) form true = some ((⟨#[]⟩ : ByteArray), 2) := by simp only [shardref1_Digits.j0, if_true]
  unfold shardref1_Digits.f dgs
  by_cases c1 : form < 0
  · rw [if_pos c1, bad, if_neg (by omega)]
  · rw [if_neg c1]
    by_cases c2 : form > 2
    · rw [decide_eq_true c2, bad, if_neg (by omega)]
    · rw [decide_eq_false c2]
      simp only [shardref1_Digits.j0, shardref1_Digits.j1, Bool.false_eq_true, if_false]
      by_cases f0 : form = 0
      · have := first 10 (by omega) (by omega) form (by omega) m10 n k h10 hn (by omega) (by omega)
        rw [show ((10 : Nat) : Int) = 10 from rfl] at this
        rw [if_pos f0, if_pos (.inl f0), if_pos f0, this, if_neg (by omega), List.nil_append]
      · rw [if_neg f0]
        by_cases f1 : form = 1
        · have := first 16 (by omega) (by omega) form (by omega) m16 n k h16 hn (by omega) (by omega)
          rw [show ((16 : Nat) : Int) = 16 from rfl] at this
          rw [if_pos (.inr (.inl f1)), if_neg f0, if_pos f1, this, if_pos (by omega)]
        · have f2 : form = 2 := by omega
          subst f2
          rw [if_pos (.inr (.inr rfl)), if_neg (by decide), if_neg (by decide), loopB 16 n k [] (by simpa using hn) hn rfl (by omega)]
          simp
end TD
theorem TextDigits (n form : Int) (hw : (Lit.int .u64 n).wf = true) (hf : (Lit.int .i64 form).wf = true) : ∃ k, shardlaw1_TextDigits.f k n form = some true := by
  have hn : 0 ≤ n ∧ n ≤ 18446744073709551615 := by
    simpa [Lit.wf, IntKind.min, IntKind.max, IntKind.signed, IntKind.bits] using hw
  obtain ⟨u, rfl⟩ := Int.eq_ofNat_of_zero_le hn.1
  obtain ⟨m10, a1, a2⟩ := T8.fits_ex 10 u 19 (by omega)
  obtain ⟨m16, b1, b2⟩ := T8.fits_ex 16 u 15 (by omega)
  refine ⟨200, ?_⟩
  unfold shardlaw1_TextDigits.f
  rw [T8.tDigits u m10 m16 (by omega) a2 b2 b1 form 200 (by omega), TD.rDigits u m10 m16 (by omega) a2 b2 a1 b1 form 200 (by omega), Option.bind_some, Option.bind_some, if_pos rfl]
  by_cases c : form = 0 ∨ form = 1 ∨ form = 2
  · rw [if_pos c]; rfl
  · rw [if_neg c]; rfl
end Go.Proofs.YtplhcnlpfoiieaaDoor.Pure
