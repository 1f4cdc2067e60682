/- Without the document's answer: Number reads back what Digits writes, in every form, without needless zeros. -/
import Derived.Test.YtplhcnlpfoiieaaDoorPureText8
import Derived.Test.YtplhcnlpfoiieaaDoorPx52
set_option linter.unusedVariables false
set_option linter.unusedSimpArgs false
namespace Go.Proofs.YtplhcnlpfoiieaaDoor.Pure
open Go.RowKit Go.Proofs.YtplhcnlpfoiieaaDoor.P Go.Proofs.YtplhcnlpfoiieaaDoorW.PrintWords Go.Proofs.YtplhcnlpfoiieaaDoorW.PrintLast Go.Proofs.YtplhcnlpfoiieaaDoorW.PrintMore Go.Proofs.YtplhcnlpfoiieaaDoor.PL

namespace TC
open T3 (hd)
open T8
theorem hd_lt (d : Nat) (h : d < 16) : 48 ≤ hd d ∧ hd d < 103 := by have := T3.hd_range d h; omega
theorem hd_zero (d : Nat) (h : d < 16) : hd d = 48 ↔ d = 0 := by unfold hd; split <;> omega
theorem hexValue (k : Nat) (hk : 2 ≤ k) (d : Nat) (h : d < 16) : text_hexValue.f k (hd d) = some (d : Int) := by
  obtain ⟨k, rfl⟩ : ∃ m, k = m + 2 := ⟨k - 2, by omega⟩
  have hv : (d < 10 ∧ hd d = 48 + d) ∨ (10 ≤ d ∧ hd d = 87 + d) := by unfold hd; split <;> omega
  generalize hd d = x at hv ⊢
  simp only [text_hexValue.f, text_hexValue.j0, text_hexValue.j1]
  rcases hv with ⟨c, e⟩ | ⟨c, e⟩
  · rw [if_pos (by omega), decide_eq_true (show x ≤ 57 by omega), if_pos rfl]
    congr 1; omega
  · rw [if_pos (by omega), decide_eq_false (show ¬ x ≤ 57 by omega), if_neg (by decide), if_pos (by omega), decide_eq_true (show x ≤ 102 by omega), if_pos rfl]
    congr 1; omega
/-- What is read so far, and one digit more. -/
theorem grow (b n d : Nat) (hb : 0 < b) : n / b ^ (d + 1) * b + n / b ^ d % b = n / b ^ d := by
  rw [Nat.pow_succ, ← Nat.div_div_eq_div_mul, Nat.mul_comm]
  exact Nat.div_add_mod _ _
theorem div_le (b n d : Nat) : n / b ^ d ≤ n := Nat.div_le_self _ _
theorem hexLoop (s : ByteArray) (m n : Nat) (hn : n < 18446744073709551616) (hs : s = strOfNums ([48, 120] ++ top 16 m n)) (h1 : 1 ≤ m) (hm : m ≤ 16) (hlt : n < 16 ^ m) : ∀ (d k i : Nat), i + d = m → d + 5 < k →
    text_hexNumber.l0 k s ((n / 16 ^ d : Nat) : Int) ((2 + i : Nat) : Int) = some ((n : Int), 0, 0)
  | 0, k, i, hi, hk => by
    obtain ⟨k, rfl⟩ : ∃ x, k = x + 1 := ⟨k - 1, by omega⟩
    have hsz : s.size = 2 + m := by rw [hs, str_size, List.length_append, top_len]; rfl
    simp only [text_hexNumber.l0]
    rw [if_neg (by omega), if_neg (by omega), Nat.pow_zero, Nat.div_one]
  | d + 1, k, i, hi, hk => by
    obtain ⟨k, rfl⟩ : ∃ x, k = x + 1 := ⟨k - 1, by omega⟩
    have hsz : s.size = 2 + m := by rw [hs, str_size, List.length_append, top_len]; rfl
    have hq := Nat.mod_lt (n / 16 ^ d) (show 16 > 0 by omega)
    have hg := grow 16 n d (by omega)
    have hle := div_le 16 n d
    have eg : ([48, 120] ++ top 16 m n).getD (2 + i) 0 = hd (n / 16 ^ d % 16) := by
      have := top_get 16 m n i (by omega)
      rw [show m - 1 - i = d by omega] at this
      rw [← this, List.getD_eq_getElem?_getD, List.getElem?_append_right (by simp), ← List.getD_eq_getElem?_getD]
      simp
    have hr := hd_lt _ hq
    have eb : bt s ((2 + i : Nat) : Int) = hd (n / 16 ^ d % 16) := by
      rw [hs, str_bt _ _ (by rw [List.length_append, top_len]; simp; omega) (by rw [eg]; omega) (by rw [eg]; omega), eg]
    have ih := hexLoop s m n hn hs h1 hm hlt d k (i + 1) (by omega) (by omega)
    simp only [text_hexNumber.l0]
    rw [eb, hexValue k (by omega) _ hq, if_pos (by omega), if_pos (by omega), Option.bind_some]
    generalize n / 16 ^ d % 16 = r at *
    generalize n / 16 ^ (d + 1) = q at *
    generalize n / 16 ^ d = q2 at *
    rw [if_neg (by omega), if_neg (by omega), u64_id (x := (q : Int) * 16) (by omega) (by omega), u64_id (x := (r : Int)) (by omega) (by omega), u64_or4 (by omega) (by omega) (by omega) (by omega) (by omega), wrap64_id (by omega) (by omega)]
    rw [show (q : Int) * 16 + (r : Int) = (q2 : Int) by omega, show ((2 + i : Nat) : Int) + 1 = ((2 + (i + 1) : Nat) : Int) by omega]
    exact ih
theorem hexReads (m n k : Nat) (hn : n < 18446744073709551616) (h1 : 1 ≤ m) (hm : m ≤ 16) (hlt : n < 16 ^ m) (hk : 40 < k) : text_Number.f k (strOfNums ([48, 120] ++ top 16 m n)) = some ((n : Int), 0, 0) := by
  obtain ⟨k, rfl⟩ : ∃ x, k = x + 1 := ⟨k - 1, by omega⟩
  have hl : ([48, 120] ++ top 16 m n).length = 2 + m := by rw [List.length_append, top_len]; rfl
  have hsz : (strOfNums ([48, 120] ++ top 16 m n)).size = 2 + m := by rw [str_size, hl]
  have e0 : bt (strOfNums ([48, 120] ++ top 16 m n)) 0 = 48 := str_bt _ 0 (by omega) (by simp) (by simp)
  have e1 : bt (strOfNums ([48, 120] ++ top 16 m n)) 1 = 120 := str_bt _ 1 (by omega) (by simp) (by simp)
  have h := hexLoop _ m n hn rfl h1 hm hlt m k 0 (by omega) (by omega)
  rw [Nat.div_eq_of_lt hlt] at h
  unfold text_Number.f
  rw [e0, e1, hsz, if_pos (by omega), if_pos (by omega), if_pos rfl, if_pos (by omega), show ((120 : Int) == 120) = true from rfl]
  simp only [text_Number.j0, if_true]
  rw [text_hexNumber.f, show text_hexNumber.l0 k (strOfNums ([48, 120] ++ top 16 m n)) 0 2 = some ((n : Int), 0, 0) from h]
  rfl
theorem decLoop (s : ByteArray) (m n : Nat) (hn : n < 18446744073709551616) (hs : s = strOfNums (top 10 m n)) (hf : fits 10 m n) (hm : m ≤ 20) : ∀ (d k i : Nat), i + d = m → 2 * d + 5 < k →
    text_Number.l0 k s ((n / 10 ^ d : Nat) : Int) (i : Int) = some ((n : Int), 0, 0)
  | 0, k, i, hi, hk => by
    obtain ⟨k, rfl⟩ : ∃ x, k = x + 1 := ⟨k - 1, by omega⟩
    have hsz : s.size = m := by rw [hs, str_size, top_len]
    have h1 := hf.1
    have hne : ¬ s.toList = ([] : List UInt8) := by
      intro h
      have := congrArg List.length h
      rw [toList_data, size_list] at this
      rw [List.length_nil] at this
      omega
    simp only [text_Number.l0]
    rw [if_neg (by omega), if_neg hne, Nat.pow_zero, Nat.div_one]
  | d + 1, k, i, hi, hk => by
    obtain ⟨k, rfl⟩ : ∃ x, k = x + 2 := ⟨k - 2, by omega⟩
    have hsz : s.size = m := by rw [hs, str_size, top_len]
    have hq := Nat.mod_lt (n / 10 ^ d) (show 10 > 0 by omega)
    have hg := grow 10 n d (by omega)
    have hle := div_le 10 n d
    have hdig : ∀ j, j < m → bt s (j : Int) = ((48 + n / 10 ^ (m - 1 - j) % 10 : Nat) : Int) := by
      intro j hj
      have eg := top_get 10 m n j hj
      have hq := Nat.mod_lt (n / 10 ^ (m - 1 - j)) (show 10 > 0 by omega)
      have eh : hd (n / 10 ^ (m - 1 - j) % 10) = ((48 + n / 10 ^ (m - 1 - j) % 10 : Nat) : Int) := by unfold hd; rw [if_pos hq]; omega
      rw [eh] at eg
      generalize n / 10 ^ (m - 1 - j) % 10 = r at *
      rw [hs, str_bt _ j (by rw [top_len]; exact hj) (by rw [eg]; omega) (by rw [eg]; omega), eg]
    have eb := hdig i (by omega)
    rw [show m - 1 - i = d by omega] at eb
    have e0 : i = 1 → bt s 0 ≠ 48 := by
      intro h1
      have hz := hdig 0 (by omega)
      rcases hf.2.2 with h | h
      · omega
      · have hpos : 1 ≤ n / 10 ^ (m - 1) := Nat.div_pos h (Nat.pow_pos (by omega))
        have hlt : n / 10 ^ (m - 1) < 10 := by
          rw [Nat.div_lt_iff_lt_mul (Nat.pow_pos (by omega)), ← Nat.pow_succ', show (m - 1).succ = m by omega]
          exact hf.2.1
        rw [show m - 1 - 0 = m - 1 by omega, Nat.mod_eq_of_lt hlt] at hz
        have hz : bt s 0 = ((48 + n / 10 ^ (m - 1) : Nat) : Int) := hz
        rw [hz]
        omega
    have ih := decLoop s m n hn hs hf hm d k (i + 1) (by omega) (by omega)
    simp only [text_Number.l0]
    rw [eb]
    generalize n / 10 ^ d % 10 = r at *
    generalize n / 10 ^ (d + 1) = q at *
    generalize n / 10 ^ d = q2 at *
    have nxt : text_Number.j2 (k + 1) s (q : Int) (i : Int) false = some ((n : Int), 0, 0) := by
      simp only [text_Number.j2, Bool.false_eq_true, if_false]
      rw [eb, show (((48 + r : Nat) : Int) - 48) % 256 = (r : Int) by omega, if_pos (by omega), if_pos (by omega), if_neg (by omega), u64_id (x := 10 * (q : Int)) (by omega) (by omega), u64_id (x := 10 * (q : Int) + (r : Int)) (by omega) (by omega), wrap64_id (by omega) (by omega)]
      rw [show 10 * (q : Int) + (r : Int) = (q2 : Int) by omega, show (i : Int) + 1 = ((i + 1 : Nat) : Int) by omega]
      exact ih
    rw [if_pos (by omega), if_pos (by omega), if_neg (by omega), if_neg (by omega)]
    by_cases c1 : i = 1
    · rw [if_pos (by omega), if_pos (by omega), show (bt s 0 == 48) = false from beq_eq_false_iff_ne.2 (e0 c1)]
      exact nxt
    · rw [if_neg (by omega)]
      exact nxt
theorem decReads (m n k : Nat) (hn : n < 18446744073709551616) (hf : fits 10 m n) (hm : m ≤ 20) (hk : 60 < k) : text_Number.f k (strOfNums (top 10 m n)) = some ((n : Int), 0, 0) := by
  obtain ⟨k, rfl⟩ : ∃ x, k = x + 1 := ⟨k - 1, by omega⟩
  have hsz : (strOfNums (top 10 m n)).size = m := by rw [str_size, top_len]
  have h := decLoop _ m n hn rfl hf hm m k 0 (by omega) (by omega)
  rw [Nat.div_eq_of_lt hf.2.1] at h
  have j : text_Number.j0 (k + 1) (strOfNums (top 10 m n)) false = some ((n : Int), 0, 0) := by
    simp only [text_Number.j0, Bool.false_eq_true, if_false]
    exact h
  unfold text_Number.f
  rw [hsz, j]
  by_cases h2 : (m : Int) ≥ 2
  · have eg := top_get 10 m n 0 (by omega)
    have hne : ∀ i, i < m → 48 ≤ (top 10 m n).getD i 0 ∧ (top 10 m n).getD i 0 < 58 := by
      intro i hi
      rw [top_get 10 m n i hi]
      have hq := Nat.mod_lt (n / 10 ^ (m - 1 - i)) (show 10 > 0 by omega)
      unfold hd
      rw [if_pos hq]
      omega
    have b1 : bt (strOfNums (top 10 m n)) 1 ≠ 120 := by
      have := hne 1 (by omega)
      have e : bt (strOfNums (top 10 m n)) 1 = (top 10 m n).getD 1 0 := str_bt _ 1 (by rw [top_len]; omega) (by omega) (by omega)
      rw [e]; omega
    rw [if_pos h2, if_pos (by omega), show (bt (strOfNums (top 10 m n)) 1 == 120) = false from beq_eq_false_iff_ne.2 b1, j]
    split
    · rw [if_pos (by omega)]
    · rfl
  · rw [if_neg h2]
/-- The first digit of what is not 0. -/
theorem lead (b m n : Nat) (hb : 2 ≤ b) (hb2 : b ≤ 16) (hf : fits b m n) (h0 : n ≠ 0) : (top b m n).getD 0 0 ≠ 48 := by
  obtain ⟨h1, h2, h3⟩ := hf
  have hpos : 1 ≤ n / b ^ (m - 1) := by
    rcases h3 with h | h
    · subst h; simp; omega
    · exact Nat.div_pos h (Nat.pow_pos (by omega))
  have hlt : n / b ^ (m - 1) < b := by
    rw [Nat.div_lt_iff_lt_mul (Nat.pow_pos (by omega)), ← Nat.pow_succ', show (m - 1).succ = m by omega]
    exact h2
  rw [top_get b m n 0 (by omega), show m - 1 - 0 = m - 1 by omega, Nat.mod_eq_of_lt hlt, Ne, hd_zero _ (by omega)]
  omega
end TC
theorem TextCounts (n : Int) (hw : (Lit.int .u64 n).wf = true) : ∃ k, shardlaw1_TextCounts.f k n = some true := by
  have hn : 0 ≤ n ∧ n ≤ 18446744073709551615 := by
    simpa [Lit.wf, IntKind.min, IntKind.max, IntKind.signed, IntKind.bits] using hw
  obtain ⟨u, rfl⟩ := Int.eq_ofNat_of_zero_le hn.1
  obtain ⟨m10, a1, a2⟩ := T8.fits_ex 10 u 19 (by omega)
  obtain ⟨m16, b1, b2⟩ := T8.fits_ex 16 u 15 (by omega)
  have l10 := TC.lead 10 m10 u (by omega) (by omega) a2
  have l16 := TC.lead 16 m16 u (by omega) (by omega) b2
  have p10 := a2.1
  have p16 := b2.1
  have t10 := T8.top_len 10 m10 u
  have t16 := T8.top_len 16 m16 u
  refine ⟨300, ?_⟩
  unfold shardlaw1_TextCounts.f
  -- form 2
  have f3 : ∀ k, shardlaw1_TextCounts.l0 (k + 1) (u : Int) 3 = some true := by
    intro k; simp only [shardlaw1_TextCounts.l0]; rw [if_neg (by omega)]
  have f2 : ∀ k, 100 < k → shardlaw1_TextCounts.l0 (k + 4) (u : Int) 2 = some true := by
    intro k hk
    have hs := T8.str_size ([48, 120] ++ T8.top 16 16 u)
    rw [List.length_append, T8.top_len] at hs
    have hs : (strOfNums ([48, 120] ++ T8.top 16 16 u)).size = 18 := hs
    simp only [shardlaw1_TextCounts.l0]
    rw [if_pos (show (2 : Int) < 3 by omega), T8.tDigits u m10 m16 (by omega) a2 b2 b1 2 (k + 3) (by omega), if_pos (.inr (.inr rfl)), Option.bind_some]
    have ed : T8.dgs 2 m10 m16 u = [48, 120] ++ T8.top 16 16 u := rfl
    simp only []
    rw [ed, TC.hexReads 16 u (k + 3) (by omega) (by omega) (by omega) (by omega) (by omega), Option.bind_some]
    simp only [if_true]
    rw [bne_self_eq_false]
    simp only [shardlaw1_TextCounts.j1, shardlaw1_TextCounts.j2, Bool.false_eq_true, if_false, if_true]
    rw [hs, show ((((18 : Nat) : Int)) != 18) = false from rfl]
    simp only [Bool.false_eq_true, if_false]
    rw [if_neg (by omega), wrap64_id (by omega) (by omega)]
    exact f3 k
  have f1 : ∀ k, 110 < k → shardlaw1_TextCounts.l0 (k + 6) (u : Int) 1 = some true := by
    intro k hk
    have hs := T8.str_size ([48, 120] ++ T8.top 16 m16 u)
    rw [List.length_append, T8.top_len] at hs
    have hs : (strOfNums ([48, 120] ++ T8.top 16 m16 u)).size = 2 + m16 := hs
    simp only [shardlaw1_TextCounts.l0]
    rw [if_pos (show (1 : Int) < 3 by omega), T8.tDigits u m10 m16 (by omega) a2 b2 b1 1 (k + 5) (by omega), if_pos (.inr (.inl rfl)), Option.bind_some]
    have ed : T8.dgs 1 m10 m16 u = [48, 120] ++ T8.top 16 m16 u := rfl
    simp only []
    rw [ed, TC.hexReads m16 u (k + 5) (by omega) (by omega) (by omega) b2.2.1 (by omega), Option.bind_some]
    simp only [if_true]
    rw [bne_self_eq_false]
    simp only [shardlaw1_TextCounts.j1, shardlaw1_TextCounts.j2, Bool.false_eq_true, if_false, if_true]
    rw [if_neg (show ¬ (1 : Int) = 2 by omega)]
    have nxt := f2 (k - 1) (by omega)
    rw [show k - 1 + 4 = k + 3 by omega] at nxt
    have w1 : wrap64 ((1 : Int) + 1) = 2 := by rw [wrap64_id (by omega) (by omega)]; rfl
    have w2 : wrap64 (2 * (1 : Int)) = 2 := by rw [wrap64_id (by omega) (by omega)]; rfl
    rw [w1, w2, hs, nxt]
    rw [if_pos (by omega)]
    by_cases h0 : (u : Int) = 0
    · rw [if_pos h0]
    · rw [if_neg h0, if_neg (by omega), if_pos (by omega), if_pos (by omega)]
      have e2 : ([48, 120] ++ T8.top 16 m16 u).getD 2 0 = (T8.top 16 m16 u).getD 0 0 := rfl
      have hr : 48 ≤ (T8.top 16 m16 u).getD 0 0 ∧ (T8.top 16 m16 u).getD 0 0 < 103 := by
        rw [T8.top_get 16 m16 u 0 (by omega)]
        exact TC.hd_lt _ (Nat.mod_lt _ (by omega))
      have e : bt (strOfNums ([48, 120] ++ T8.top 16 m16 u)) 2 = (T8.top 16 m16 u).getD 0 0 := by
        rw [← e2]
        exact T8.str_bt _ 2 (by rw [List.length_append, t16]; simp; omega) (by rw [e2]; omega) (by rw [e2]; omega)
      rw [e, if_neg (l16 (by omega))]
  have f0 : ∀ k, 120 < k → shardlaw1_TextCounts.l0 (k + 8) (u : Int) 0 = some true := by
    intro k hk
    have hs := T8.str_size (T8.top 10 m10 u)
    rw [t10] at hs
    simp only [shardlaw1_TextCounts.l0]
    rw [if_pos (show (0 : Int) < 3 by omega), T8.tDigits u m10 m16 (by omega) a2 b2 b1 0 (k + 7) (by omega), if_pos (.inl rfl), Option.bind_some]
    have ed : T8.dgs 0 m10 m16 u = T8.top 10 m10 u := rfl
    simp only []
    rw [ed, TC.decReads m10 u (k + 7) (by omega) a2 (by omega) (by omega), Option.bind_some]
    simp only [if_true]
    rw [bne_self_eq_false]
    simp only [shardlaw1_TextCounts.j1, shardlaw1_TextCounts.j2, Bool.false_eq_true, if_false, if_true]
    rw [if_neg (show ¬ (0 : Int) = 2 by omega)]
    have nxt := f1 (k - 1) (by omega)
    rw [show k - 1 + 6 = k + 5 by omega] at nxt
    have w1 : wrap64 ((0 : Int) + 1) = 1 := by rw [wrap64_id (by omega) (by omega)]; rfl
    have w2 : wrap64 (2 * (0 : Int)) = 0 := by rw [wrap64_id (by omega) (by omega)]; rfl
    rw [w1, w2, hs, nxt]
    rw [if_pos (by omega)]
    by_cases h0 : (u : Int) = 0
    · rw [if_pos h0]
    · rw [if_neg h0, if_neg (by omega), if_pos (by omega), if_pos (by omega)]
      have hr : 48 ≤ (T8.top 10 m10 u).getD 0 0 ∧ (T8.top 10 m10 u).getD 0 0 < 103 := by
        rw [T8.top_get 10 m10 u 0 (by omega)]
        exact TC.hd_lt _ (Nat.lt_trans (Nat.mod_lt _ (by omega)) (by omega))
      have e : bt (strOfNums (T8.top 10 m10 u)) 0 = (T8.top 10 m10 u).getD 0 0 := T8.str_bt _ 0 (by rw [t10]; omega) (by omega) (by omega)
      rw [e, if_neg (l10 (by omega))]
  exact f0 292 (by omega)
end Go.Proofs.YtplhcnlpfoiieaaDoor.Pure
