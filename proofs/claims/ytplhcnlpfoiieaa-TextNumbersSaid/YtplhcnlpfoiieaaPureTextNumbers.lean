/- For every text, alone and with 0x ahead: the program's Number reads what the document's Number reads: the number, the place, the error. -/
import Derived.Test.YtplhcnlpfoiieaaXPl
import Derived.Test.YtplhcnlpfoiieaaPx81
set_option linter.unusedVariables false
set_option linter.unusedSimpArgs false
namespace Go.Proofs.Ytplhcnlpfoiieaa.Pure
open Go.RowKit Go.Proofs.Ytplhcnlpfoiieaa.P Go.Proofs.YtplhcnlpfoiieaaW.PrintWords Go.Proofs.YtplhcnlpfoiieaaW.PrintLast Go.Proofs.Ytplhcnlpfoiieaa.PL

namespace Num
def hexv (c : Int) : Int := if 48 ≤ c ∧ c ≤ 57 then c - 48 else if 97 ≤ c ∧ c ≤ 102 then c - 87 else if 65 ≤ c ∧ c ≤ 70 then c - 55 else -1
theorem hexv_lt (c : Int) : -1 ≤ hexv c ∧ hexv c < 16 := by unfold hexv; repeat' split <;> omega

theorem hexValue (k : Nat) (hk : 2 ≤ k) (c : Int) (h0 : 0 ≤ c) (h1 : c < 256) : text_hexValue.f k c = some (hexv c) := by
  obtain ⟨k, rfl⟩ : ∃ m, k = m + 2 := ⟨k - 2, by omega⟩
  simp only [text_hexValue.f, text_hexValue.j0, text_hexValue.j1, hexv, ge_iff_le]
  have e1 : 48 ≤ c → (c - 48) % 256 = c - 48 := by omega
  have e2 : 97 ≤ c → (c - 97) % 256 + 10 = c - 87 := by omega
  have e3 : 65 ≤ c → (c - 65) % 256 + 10 = c - 55 := by omega
  by_cases a1 : 48 ≤ c
  · by_cases a2 : c ≤ 57
    · simp [a1, a2, e1]
    · by_cases a3 : 97 ≤ c
      · by_cases a4 : c ≤ 102
        · simp [a1, a2, a3, a4, e2]
        · simp [a1, a2, a3, a4, show 65 ≤ c by omega, show ¬ c ≤ 70 by omega]
      · by_cases a5 : 65 ≤ c
        · by_cases a6 : c ≤ 70
          · simp [a1, a2, a3, a5, a6, e3]
          · simp [a1, a2, a3, a5, a6]
        · simp [a1, a2, a3, a5]
  · simp [a1, show ¬ 97 ≤ c by omega, show ¬ 65 ≤ c by omega]
theorem digit (k : Nat) (hk : 2 ≤ k) (c : Int) (h0 : 0 ≤ c) (h1 : c < 256) : shardref1_digit.f k (wrap64 c) = some (hexv c) := by
  obtain ⟨k, rfl⟩ : ∃ m, k = m + 2 := ⟨k - 2, by omega⟩
  rw [wrap64_id (by omega) (by omega)]
  have w1 : ∀ x : Int, -300 ≤ x → x ≤ 300 → wrap64 x = x := fun x a b => wrap64_id (by omega) (by omega)
  simp only [shardref1_digit.f, shardref1_digit.j0, shardref1_digit.j1, hexv, ge_iff_le]
  rw [w1 (c - 48) (by omega) (by omega), w1 (c - 97) (by omega) (by omega), w1 (c - 65) (by omega) (by omega), w1 (c - 97 + 10) (by omega) (by omega), w1 (c - 65 + 10) (by omega) (by omega)]
  have e2 : c - 97 + 10 = c - 87 := by omega
  have e3 : c - 65 + 10 = c - 55 := by omega
  rw [e2, e3]
  by_cases a1 : 48 ≤ c
  · by_cases a2 : c ≤ 57
    · simp [a1, a2]
    · by_cases a3 : 97 ≤ c
      · by_cases a4 : c ≤ 102
        · simp [a1, a2, a3, a4]
        · simp [a1, a2, a3, a4, show 65 ≤ c by omega, show ¬ c ≤ 70 by omega]
      · by_cases a5 : 65 ≤ c
        · by_cases a6 : c ≤ 70
          · simp [a1, a2, a3, a5, a6]
          · simp [a1, a2, a3, a5, a6]
        · simp [a1, a2, a3, a5]
  · simp [a1, show ¬ 97 ≤ c by omega, show ¬ 65 ≤ c by omega]

/-- The loops over hexadecimal digits. -/
theorem hexloop (s : ByteArray) (hn : s.size ≤ 140737488361232) (hs : 2 ≤ s.size) (d : Nat) : ∀ (k : Nat) (i x : Int), 2 ≤ i → i ≤ 18 → (s.size : Int) - i ≤ d → d + 3 ≤ k → 0 ≤ x → x < 18446744073709551616 →
    ∃ r, text_hexNumber.l0 k s x i = some r ∧ shardref1_Number.l0 k s x i = some r := by
  induction d with
  | zero =>
    intro k i x h0 h18 hd hk x0 x1
    obtain ⟨k, rfl⟩ : ∃ m, k = m + 1 := ⟨k - 1, by omega⟩
    simp only [text_hexNumber.l0, shardref1_Number.l0]
    simp only [if_neg (show ¬ i < (s.size : Int) by omega)]
    split
    · exact ⟨_, rfl, rfl⟩
    · exact ⟨_, rfl, rfl⟩
  | succ d ih =>
    intro k i x h0 h18 hd hk x0 x1
    obtain ⟨k, rfl⟩ : ∃ m, k = m + 1 := ⟨k - 1, by omega⟩
    simp only [text_hexNumber.l0, shardref1_Number.l0]
    by_cases hlt : i < (s.size : Int)
    · simp only [if_pos hlt, if_pos (show (0 : Int) ≤ i by omega)]
      rw [hexValue k (by omega) (bt s i) (bt_ge s i) (bt_lt s i), digit k (by omega) (bt s i) (bt_ge s i) (bt_lt s i)]
      simp only [Option.bind_some]
      have hv := hexv_lt (bt s i)
      generalize hexv (bt s i) = v at *
      by_cases hneg : v < 0
      · simp only [if_pos hneg]; exact ⟨_, rfl, rfl⟩
      · simp only [if_neg hneg]
        by_cases he : i = 18
        · rw [if_pos he, if_pos (by omega)]; exact ⟨_, rfl, rfl⟩
        · rw [if_neg he, if_neg (by omega)]
          have e1 : Go.bits .or .u64 (IntKind.u64.wrap (x * 16)) (IntKind.u64.wrap v) = IntKind.u64.wrap (x * 16) + v := by
            rw [u64_id (x := v) (by omega) (by omega)]
            rw [u64_wrap]
            exact u64_or4 (by omega) (by omega) (by omega) (by omega) (by omega)
          have e2 : IntKind.u64.wrap (IntKind.u64.wrap (16 * x) + IntKind.u64.wrap v) = IntKind.u64.wrap (x * 16) + v := by
            rw [u64_id (x := v) (by omega) (by omega), u64_wrap, u64_wrap, u64_wrap]
            omega
          rw [e1, e2, wrap64_id (x := i + 1) (by omega) (by omega)]
          have e3 : 0 ≤ IntKind.u64.wrap (x * 16) + v ∧ IntKind.u64.wrap (x * 16) + v < 18446744073709551616 := by rw [u64_wrap]; omega
          exact ih k (i + 1) _ (by omega) (by omega) (by omega) (by omega) e3.1 e3.2
    · simp only [if_neg hlt]
      split
      · exact ⟨_, rfl, rfl⟩
      · exact ⟨_, rfl, rfl⟩

def M : List UInt8 := [49, 56, 52, 52, 54, 55, 52, 52, 48, 55, 51, 55, 48, 57, 53, 53, 49, 54, 49, 53]
theorem vl_M : vl M = 18446744073709551615 := by decide
theorem dig_M : Dig M := by unfold Dig M; decide

/-- What the document's 'over' tells of m digits whose number without the last is no more than the most. -/
theorem over_tells (l : List UInt8) (hd : Dig l) (h0 : ∀ c t, l = c :: t → (c.toNat : Int) ≠ 48 ∨ t = []) (s : ByteArray) (hs : s.data.toList = l) :
    shardref1_over.f s = some (decide (vl l > 18446744073709551615)) := by
  have hsz : s.size = l.length := by rw [← hs, size_list]
  have hb := vl_bound hd
  unfold shardref1_over.f
  by_cases h20 : (s.size : Int) = 20
  · rw [if_pos h20, toList_data, hs]
    have hl : M.length = l.length := by rw [← hsz]; simp [M]; omega
    have := less_vl M l hl dig_M hd
    rw [vl_M] at this
    congr 1
    rw [Bool.eq_iff_iff, decide_eq_true_eq]
    exact this
  · rw [if_neg h20]
    congr 1
    rw [decide_eq_decide]
    constructor
    · intro hgt
      obtain ⟨c, t, rfl⟩ : ∃ c t, l = c :: t := by
        cases l with
        | nil => rw [List.length_nil] at hsz; omega
        | cons c t => exact ⟨c, t, rfl⟩
      have hlen : 20 ≤ t.length := by simp at hsz; omega
      rcases h0 c t rfl with h | h
      · have := vl_low hd h
        have hp : (10 : Int) ^ 20 ≤ 10 ^ t.length := by exact_mod_cast Nat.pow_le_pow_right (by decide) hlen
        have e : (10 : Int) ^ 20 = 100000000000000000000 := by decide
        omega
      · exfalso; rw [h] at hlen; simp at hlen
    · intro hgt
      have hlen : ¬ l.length ≤ 19 := by
        intro hle
        have hp : (10 : Int) ^ l.length ≤ 10 ^ 19 := by exact_mod_cast Nat.pow_le_pow_right (by decide) hle
        have e : (10 : Int) ^ 19 = 10000000000000000000 := by decide
        omega
      omega

theorem take_succ (s : ByteArray) (i : Nat) (h : i < s.size) : s.data.toList.take (i + 1) = s.data.toList.take i ++ [s.data.toList.getD i 0] := by
  rw [List.take_succ_eq_append_getElem (by rw [size_list]; exact h), List.getD_eq_getElem?_getD, List.getElem?_eq_getElem (by rw [size_list]; exact h)]
  rfl

theorem head_bt (s : ByteArray) (i : Nat) (c : UInt8) (t : List UInt8) (h : s.data.toList.take (i + 1) = c :: t) : (c.toNat : Int) = bt s 0 ∧ (t = [] ∨ 1 ≤ i) := by
  cases hl : s.data.toList with
  | nil => rw [hl] at h; simp at h
  | cons a l =>
    rw [hl, List.take_succ_cons] at h
    injection h with h1 h2
    subst h1
    refine ⟨by rw [bt_nat, hl]; rfl, ?_⟩
    cases i with
    | zero => left; simpa using h2.symm
    | succ i => right; omega

/-- The loops over decimal digits. -/
theorem decloop (s : ByteArray) (hn : s.size ≤ 140737488361232) (d : Nat) : ∀ (k i : Nat), i ≤ s.size → s.size - i = d → 2 * d + 3 ≤ k → Dig (s.data.toList.take i) → vl (s.data.toList.take i) < 18446744073709551616 → (i ≤ 1 ∨ bt s 0 ≠ 48) →
    ∃ r, text_Number.l0 k s (vl (s.data.toList.take i)) i = some r ∧ shardref1_Number.l1 k s (vl (s.data.toList.take i)) i = some r := by
  induction d with
  | zero =>
    intro k i hi hd hk hdig hv hz
    obtain ⟨k, rfl⟩ : ∃ m, k = m + 1 := ⟨k - 1, by omega⟩
    simp only [text_Number.l0, shardref1_Number.l1]
    simp only [if_neg (show ¬ (i : Int) < (s.size : Int) by omega)]
    by_cases h0 : s.size = 0
    · have e : s.toList = [] := by rw [toList_data]; exact List.eq_nil_of_length_eq_zero (by rw [size_list]; exact h0)
      rw [if_pos e, if_pos (show (s.size : Int) = 0 by omega)]
      exact ⟨_, rfl, rfl⟩
    · have e : ¬ s.toList = [] := by rw [toList_data]; intro h; apply h0; rw [← size_list, h]; rfl
      rw [if_neg e, if_neg (show ¬ (s.size : Int) = 0 by omega)]
      exact ⟨_, rfl, rfl⟩
  | succ d ih =>
    intro k i hi hd hk hdig hv hz
    obtain ⟨k, rfl⟩ : ∃ m, k = m + 1 := ⟨k - 1, by omega⟩
    have hlt : (i : Int) < (s.size : Int) := by omega
    have hge := vl_bound hdig
    have c0 := bt_ge s i
    have c1 := bt_lt s i
    simp only [text_Number.l0, shardref1_Number.l1]
    simp only [if_pos hlt, if_pos (show (0 : Int) ≤ (i : Int) by omega)]
    have bad : ∃ r, text_Number.j2 k s (vl (s.data.toList.take i)) i true = some r ∧ shardref1_Number.j3 k s (vl (s.data.toList.take i)) i true = some r := by
      obtain ⟨k, rfl⟩ : ∃ m, k = m + 1 := ⟨k - 1, by omega⟩
      simp only [text_Number.j2, shardref1_Number.j3, if_true]
      exact ⟨_, rfl, rfl⟩
    by_cases h48 : bt s i < 48
    · simp only [if_pos h48]; exact bad
    simp only [if_neg h48]
    by_cases h57 : bt s i > 57
    · simp only [if_pos h57]; exact bad
    simp only [if_neg h57]
    have e255 : (bt s i - 48) % 256 = bt s i - 48 := by omega
    have htake := take_succ s i (by omega)
    have hgd : ((s.data.toList.getD i 0).toNat : Int) = bt s i := by rw [bt_nat]; simp
    have hdig2 : Dig (s.data.toList.take (i + 1)) := by
      rw [htake]
      intro c hc
      rw [List.mem_append, List.mem_singleton] at hc
      rcases hc with hc | rfl
      · exact hdig c hc
      · rw [hgd]; omega
    have hvl : vl (s.data.toList.take (i + 1)) = 10 * vl (s.data.toList.take i) + (bt s i - 48) := by rw [htake, vl_snoc, hgd]
    have good : (i = 0 ∨ bt s 0 ≠ 48) → ∃ r, text_Number.j2 k s (vl (s.data.toList.take i)) i false = some r ∧ shardref1_Number.j3 k s (vl (s.data.toList.take i)) i false = some r := by
      intro hz2
      obtain ⟨k, rfl⟩ : ∃ m, k = m + 1 := ⟨k - 1, by omega⟩
      simp only [text_Number.j2, shardref1_Number.j3, if_false, Bool.false_eq_true]
      rw [wrap64_id (x := (i : Int) + 1) (by omega) (by omega)]
      simp only [if_pos (show (0 : Int) ≤ (i : Int) by omega), if_pos hlt, if_pos (show (0 : Int) ≤ (i : Int) + 1 by omega), if_pos (show (i : Int) + 1 ≤ (s.size : Int) by omega)]
      have hx : (s.extract 0 ((i : Int) + 1).toNat).data.toList = s.data.toList.take (i + 1) := by
        rw [Lib.extract_data]; simp
      rw [over_tells (s.data.toList.take (i + 1)) hdig2 (fun c t hct => by
        have := head_bt s i c t hct
        rcases this.2 with h | h
        · exact .inr h
        · rw [this.1]; left; rcases hz2 with h2 | h2
          · omega
          · exact h2) _ hx]
      simp only [Option.bind_some, e255]
      rw [hvl]
      by_cases hov : 10 * vl (s.data.toList.take i) + (bt s i - 48) > 18446744073709551615
      · rw [if_pos (show vl (s.data.toList.take i) > (18446744073709551615 - (bt s i - 48)) / 10 by omega), if_pos (decide_eq_true hov)]
        exact ⟨_, rfl, rfl⟩
      · rw [if_neg (show ¬ vl (s.data.toList.take i) > (18446744073709551615 - (bt s i - 48)) / 10 by omega), if_neg (by simpa using hov)]
        have e1 : IntKind.u64.wrap (IntKind.u64.wrap (10 * vl (s.data.toList.take i)) + (bt s i - 48)) = vl (s.data.toList.take (i + 1)) := by
          rw [hvl, u64_id (x := 10 * _) (by omega) (by omega), u64_id (by omega) (by omega)]
        rw [e1]
        exact ih k (i + 1) (by omega) (by omega) (by omega) hdig2 (by rw [hvl]; omega) (hz2.imp (fun h => by omega) id)
    by_cases hi1 : (i : Int) = 1
    · simp only [if_pos hi1, if_pos (show (0 : Int) < (s.size : Int) by omega), if_pos (show (i : Int) > 0 by omega)]
      by_cases hz0 : bt s 0 = 48
      · rw [beq_iff_eq.2 hz0]; exact bad
      · rw [beq_eq_false_iff_ne.2 hz0]; exact good (.inr hz0)
    · rw [if_neg hi1]
      by_cases hip : (i : Int) > 0
      · rw [if_pos hip, if_pos (show (0 : Int) < (s.size : Int) by omega)]
        have hz0 : bt s 0 ≠ 48 := by
          rcases hz with h | h
          · omega
          · exact h
        rw [beq_eq_false_iff_ne.2 hz0]; exact good (.inr hz0)
      · rw [if_neg hip]; exact good (.inl (by omega))

/-- Both functions. -/
theorem number (s : ByteArray) (hn : s.size ≤ 140737488361232) (k : Nat) (hk : 2 * s.size + 8 ≤ k) : ∃ r, text_Number.f k s = some r ∧ shardref1_Number.f k s = some r := by
  have dec : ∃ r, text_Number.j0 k s false = some r ∧ shardref1_Number.j0 k s false = some r := by
    obtain ⟨k, rfl⟩ : ∃ m, k = m + 1 := ⟨k - 1, by omega⟩
    simp only [text_Number.j0, shardref1_Number.j0, Bool.false_eq_true, if_false]
    have := decloop s hn s.size k 0 (by omega) (by omega) (by omega) (by simp [Dig]) (by simp [vl]) (.inl (by omega))
    simpa [vl] using this
  have hex : 2 ≤ s.size → ∃ r, text_Number.j0 k s true = some r ∧ shardref1_Number.j0 k s true = some r := by
    intro hs
    obtain ⟨k, rfl⟩ : ∃ m, k = m + 1 := ⟨k - 1, by omega⟩
    simp only [text_Number.j0, shardref1_Number.j0, if_true, text_hexNumber.f]
    obtain ⟨r, h1, h2⟩ := hexloop s hn hs s.size k 2 0 (by omega) (by omega) (by omega) (by omega) (by omega) (by omega)
    rw [h1, h2]
    exact ⟨r, by simp, rfl⟩
  unfold text_Number.f shardref1_Number.f
  by_cases h2 : (s.size : Int) ≥ 2
  · simp only [if_pos h2, if_pos (show (0 : Int) < s.size by omega), if_pos (show (s.size : Int) > 1 by omega)]
    by_cases hb : bt s 0 = 48
    · simp only [if_pos hb, if_pos (show (1 : Int) < s.size by omega)]
      cases (bt s 1 == 120)
      · exact dec
      · exact hex (by omega)
    · simp only [if_neg hb]; exact dec
  · rw [if_neg h2, if_neg (show ¬ (s.size : Int) > 1 by omega)]; exact dec

theorem two (l : List ByteArray) (hl : l.length ≤ 2) (K : Nat) (hK : ∀ s ∈ l, s.size ≤ 140737488361232 ∧ 2 * s.size + 8 ≤ K) (d : Nat) : ∀ (k i : Nat), i ≤ l.length → l.length - i = d → K + d + 1 ≤ k → shardlaw1_TextNumbers.l0 k l i = some true := by
  induction d with
  | zero =>
    intro k i hi hd hk
    obtain ⟨k, rfl⟩ : ∃ m, k = m + 1 := ⟨k - 1, by omega⟩
    simp only [shardlaw1_TextNumbers.l0]
    rw [if_neg (by omega)]
  | succ d ih =>
    intro k i hi hd hk
    obtain ⟨k, rfl⟩ : ∃ m, k = m + 1 := ⟨k - 1, by omega⟩
    simp only [shardlaw1_TextNumbers.l0]
    rw [if_pos (by omega), if_pos (by omega)]
    have hm : rdOf ByteArray.empty l (i : Int) ∈ l := by
      have hlt : i < l.length := by omega
      have : rdOf ByteArray.empty l (i : Int) = l[i] := by simp [rdOf, hlt]
      rw [this]; exact List.getElem_mem hlt
    obtain ⟨h1, h2⟩ := hK _ hm
    obtain ⟨r, e1, e2⟩ := number _ h1 k (by omega)
    rw [e1, e2]
    simp only [Option.bind_some, if_true, shardlaw1_num.f]
    rw [wrap64_id (by omega) (by omega)]
    exact ih k (i + 1) (by omega) (by omega) (by omega)
end Num

theorem TextNumbers : shardlaw1_TextNumbers.Pure := by
  intro s hs
  refine ⟨2 * s.size + 20, ?_⟩
  unfold shardlaw1_TextNumbers.f
  rw [if_pos (by omega)]
  refine Num.two _ (by simp) (2 * s.size + 12) ?_ 2 _ 0 (by simp) (by simp) (by omega)
  intro t ht
  simp only [List.mem_cons, List.mem_nil_iff, or_false] at ht
  rcases ht with rfl | rfl
  · exact ⟨by omega, by omega⟩
  · have : ((⟨#[48, 120]⟩ : ByteArray) ++ s).size = 2 + s.size := by rw [ByteArray.size_append]; rfl
    omega
end Go.Proofs.Ytplhcnlpfoiieaa.Pure
