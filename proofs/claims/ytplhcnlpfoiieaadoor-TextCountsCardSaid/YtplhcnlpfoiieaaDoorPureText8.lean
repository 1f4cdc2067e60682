/- Plain facts shared by the statements of chapter 1: numbers in digits. No program in sight. -/
import Derived.Test.YtplhcnlpfoiieaaDoorPureText3
import Derived.Test.YtplhcnlpfoiieaaDoorPx49
import Derived.Lib.ItoaNum
set_option linter.unusedVariables false
set_option linter.unusedSimpArgs false
namespace Go.Proofs.YtplhcnlpfoiieaaDoor.Pure
open Go.RowKit Go.Proofs.YtplhcnlpfoiieaaDoor.P Go.Proofs.YtplhcnlpfoiieaaDoorW.PrintWords Go.Proofs.YtplhcnlpfoiieaaDoorW.PrintLast Go.Proofs.YtplhcnlpfoiieaaDoorW.PrintMore Go.Proofs.YtplhcnlpfoiieaaDoor.PL

namespace T8
open T3 (hd)
/-- The m last digits of n, the greatest first. -/
def top (b : Nat) : Nat → Nat → List Int
  | 0, _ => []
  | m + 1, n => top b m (n / b) ++ [hd (n % b)]
theorem top_len (b : Nat) : ∀ (m n : Nat), (top b m n).length = m
  | 0, _ => rfl
  | m + 1, n => by rw [top, List.length_append, top_len b m]; rfl
theorem top_get (b : Nat) : ∀ (m n i : Nat), i < m → (top b m n).getD i 0 = hd (n / b ^ (m - 1 - i) % b)
  | 0, _, _, h => by omega
  | m + 1, n, i, h => by
    rw [top]
    by_cases c : i < m
    · rw [List.getD_eq_getElem?_getD, List.getElem?_append_left (by rw [top_len]; exact c), ← List.getD_eq_getElem?_getD, top_get b m (n / b) i c, Nat.div_div_eq_div_mul, show m + 1 - 1 - i = m - 1 - i + 1 by omega, Nat.pow_succ, Nat.mul_comm]
    · rw [List.getD_eq_getElem?_getD, List.getElem?_append_right (by rw [top_len]; omega), top_len, show i - m = 0 by omega, show m + 1 - 1 - i = 0 by omega, Nat.pow_zero, Nat.div_one]
      rfl
theorem top_low (b : Nat) (hb : 0 < b) : ∀ (m n : Nat), top b (m + 1) n = hd (n / b ^ m % b) :: top b m n
  | 0, n => by rw [top, top, top, Nat.pow_zero, Nat.div_one]; rfl
  | m + 1, n => by
    have e : top b (m + 2) n = top b (m + 1) (n / b) ++ [hd (n % b)] := rfl
    have e2 : top b (m + 1) n = top b m (n / b) ++ [hd (n % b)] := rfl
    rw [e, e2, top_low b hb m (n / b), Nat.div_div_eq_div_mul, List.cons_append, ← Nat.pow_succ']
theorem top_rev (b m n : Nat) : (top b (m + 1) n).reverse = hd (n % b) :: (top b m (n / b)).reverse := by
  rw [top, List.reverse_append]; rfl
/-- So many digits and no more. -/
def fits (b m n : Nat) : Prop := 1 ≤ m ∧ n < b ^ m ∧ (m = 1 ∨ b ^ (m - 1) ≤ n)
theorem fits_ex (b n : Nat) : ∀ (f : Nat), n < b ^ (f + 1) → ∃ m, m ≤ f + 1 ∧ fits b m n
  | 0, h => ⟨1, by omega, by omega, h, .inl rfl⟩
  | f + 1, h => by
    by_cases c : n < b ^ (f + 1)
    · obtain ⟨m, h1, h2⟩ := fits_ex b n f c
      exact ⟨m, by omega, h2⟩
    · exact ⟨f + 2, by omega, by omega, h, .inr (by simpa using Nat.le_of_not_lt c)⟩
theorem fits_next {b m n : Nat} (hb : 2 ≤ b) (h : fits b (m + 2) n) : b ≤ n ∧ fits b (m + 1) (n / b) := by
  obtain ⟨h1, h2, h3⟩ := h
  have h3 : b ^ (m + 1) ≤ n := by
    rcases h3 with h3 | h3
    · omega
    · simpa using h3
  have hp : b ^ (m + 1) = b ^ m * b := by rw [Nat.pow_succ]
  have h0 : 1 ≤ b ^ m := Nat.one_le_pow _ _ (by omega)
  refine ⟨Nat.le_trans (by rw [hp]; exact Nat.le_mul_of_pos_left b h0) h3, by omega, ?_, ?_⟩
  · rw [Nat.div_lt_iff_lt_mul (by omega), ← Nat.pow_succ]; exact h2
  · right
    rw [Nat.le_div_iff_mul_le (by omega)]
    simpa [← hp] using h3
theorem and15u_lt (n : Nat) (h : n < 18446744073709551616) : 0 ≤ Go.bits .and .u64 (n : Int) 15 ∧ Go.bits .and .u64 (n : Int) 15 < 16 := by
  rw [T3.and15u n h]; omega
theorem appendHex : ∀ (m k : Nat) (l : List Int) (n : Nat), fits 16 m n → n < 18446744073709551616 → m < k → l.length + m < 100000 → text_appendHex.f k l (n : Int) = some (l ++ top 16 m n)
  | 0, k, l, n, h, _, _, _ => by have := h.1; omega
  | 1, k, l, n, h, hn, hk, hl => by
    obtain ⟨k, rfl⟩ : ∃ x, k = x + 1 := ⟨k - 1, by omega⟩
    have h2 := h.2.1
    rw [text_appendHex.f, T3.and15u n hn, if_neg (by omega), if_pos (by omega), if_pos (by omega), if_pos (by omega), T3.table _ (by omega)]
    rfl
  | m + 2, k, l, n, h, hn, hk, hl => by
    obtain ⟨k, rfl⟩ : ∃ x, k = x + 1 := ⟨k - 1, by omega⟩
    obtain ⟨h1, h2⟩ := fits_next (by omega) h
    have ih := appendHex (m + 1) k l (n / 16) h2 (by omega) (by omega) (by omega)
    rw [text_appendHex.f, if_pos (by omega), show (n : Int) / 16 = ((n / 16 : Nat) : Int) by omega, ih, Option.bind_some, T3.and15u n hn, if_pos (by omega), if_pos (by omega), if_pos (by rw [List.length_append, top_len]; omega), T3.table _ (by omega), List.append_assoc]
    rfl
theorem dec_top : ∀ (m n : Nat), fits 10 m n → (Lib.decDigits n).map (fun c => (c.toNat : Int)) = top 10 m n
  | 0, n, h => by have := h.1; omega
  | 1, n, h => by
    have h2 : n < 10 := by simpa using h.2.1
    rw [Lib.decDigits_one h2, top, top, List.map_cons, List.map_nil, List.nil_append]
    unfold hd
    rw [if_pos (by omega), UInt8.toNat_ofNat', Nat.mod_eq_of_lt h2]
    congr 1; omega
  | m + 2, n, h => by
    obtain ⟨h1, h2⟩ := fits_next (by omega) h
    rw [Lib.decDigits, dif_neg (by omega), List.map_append, dec_top (m + 1) (n / 10) h2, top]
    congr 1
    rw [List.map_cons, List.map_nil]
    unfold hd
    rw [if_pos (by omega), UInt8.toNat_ofNat']
    congr 1; omega
theorem str_dec (m n : Nat) (h : fits 10 m n) : (⟨(Lib.decDigits n).toArray⟩ : ByteArray) = strOfNums (top 10 m n) := by
  rw [← dec_top m n h]
  unfold strOfNums
  rw [List.map_map]
  congr 2
  conv => lhs; rw [← List.map_id (Lib.decDigits n)]
  refine List.map_congr_left fun c _ => ?_
  simp only [Function.comp_apply, Int.toNat_natCast, UInt8.ofNat_toNat, id_eq]
theorem str_app (a : List Int) (l : List Int) : strOfNums a ++ strOfNums l = strOfNums (a ++ l) := by
  apply ByteArray.ext
  rw [ByteArray.data_append]
  unfold strOfNums
  simp
theorem str_size (l : List Int) : (strOfNums l).size = l.length := by
  rw [← size_list]
  unfold strOfNums
  simp
theorem str_bt (l : List Int) (i : Nat) (h : i < l.length) (h0 : 0 ≤ l.getD i 0) (h1 : l.getD i 0 < 256) : bt (strOfNums l) (i : Int) = l.getD i 0 := by
  have e : (strOfNums l).data.toList.getD i 0 = UInt8.ofNat (l.getD i 0).toNat := by
    unfold strOfNums
    simp [List.getD_eq_getElem?_getD, h]
  rw [bt_nat, Int.toNat_natCast, e, UInt8.toNat_ofNat']
  omega
theorem shr4 (n j : Nat) (hj : j ≤ 15) : shr .u64 (n : Int) ((4 * j : Nat) : Int) = ((n / 16 ^ j : Nat) : Int) := by
  unfold shr
  rw [Int.toNat_natCast, Nat.min_eq_left (by simp [IntKind.bits]; omega), show (16 : Nat) = 2 ^ 4 from rfl, ← Nat.pow_mul]
  rfl
theorem sixteen_l (n : Nat) (hn : n < 18446744073709551616) : ∀ (j k : Nat) (acc : List Int), j ≤ 16 → j < k → acc.length ≤ 100 - j → text_Digits.l0 k (n : Int) acc (4 * (j : Int) - 4) = some (strOfNums (acc ++ top 16 j n), 0)
  | 0, k, acc, hj, hk, ha => by
    obtain ⟨k, rfl⟩ : ∃ x, k = x + 1 := ⟨k - 1, by omega⟩
    rw [text_Digits.l0, if_neg (by omega), top, List.append_nil]
  | j + 1, k, acc, hj, hk, ha => by
    obtain ⟨k, rfl⟩ : ∃ x, k = x + 1 := ⟨k - 1, by omega⟩
    have hlt : n / 16 ^ j < 18446744073709551616 := Nat.lt_of_le_of_lt (Nat.div_le_self _ _) hn
    have ih := sixteen_l n hn j k (acc ++ [hd (n / 16 ^ j % 16)]) (by omega) (by omega) (by rw [List.length_append]; simp; omega)
    rw [text_Digits.l0, show 4 * ((j + 1 : Nat) : Int) - 4 = ((4 * j : Nat) : Int) by omega, if_pos (by omega), if_pos (by omega), shr4 n j (by omega), T3.and15u _ hlt, if_pos (by omega), if_pos (by omega), if_pos (by omega), T3.table _ (by omega), wrap64_id (by omega) (by omega), show ((4 * j : Nat) : Int) - 4 = 4 * (j : Int) - 4 by omega, ih, top_low 16 (by omega), List.append_assoc]
    rfl
/-- The digits in a form. -/
def dgs (form : Int) (m10 m16 n : Nat) : List Int := if form = 0 then top 10 m10 n else if form = 1 then [48, 120] ++ top 16 m16 n else [48, 120] ++ top 16 16 n
theorem tDigits (n m10 m16 : Nat) (hn : n < 18446744073709551616) (h10 : fits 10 m10 n) (h16 : fits 16 m16 n) (hm : m16 ≤ 16) (form : Int) (k : Nat) (hk : 40 < k) :
    text_Digits.f k (n : Int) form = some (if form = 0 ∨ form = 1 ∨ form = 2 then (strOfNums (dgs form m10 m16 n), 0) else ((⟨#[]⟩ : ByteArray), 2)) := by
  unfold text_Digits.f dgs
  by_cases f0 : form = 0
  · rw [if_pos f0, if_pos (.inl f0), if_pos f0]
    have e : strconv_FormatUint_39.f (n : Int) 10 = some (strOfNums (top 10 m10 n)) := by
      rw [strconv_FormatUint_39.f, if_pos (by omega), Int.toNat_natCast, str_dec m10 n h10]
    rw [e, Option.bind_some]
  · rw [if_neg f0]
    by_cases f1 : form = 1
    · rw [if_pos f1, if_pos (.inr (.inl f1)), if_neg f0, if_pos f1, appendHex m16 k [] n h16 hn (by omega) (by simp; omega), Option.bind_some, List.nil_append, if_pos (by rw [str_size, top_len]; omega)]
      rw [show (⟨#[48, 120]⟩ : ByteArray) = strOfNums [48, 120] from rfl, str_app]
    · rw [if_neg f1]
      by_cases f2 : form = 2
      · rw [if_pos f2, if_pos (.inr (.inr f2)), if_neg f0, if_neg f1]
        have := sixteen_l n hn 16 k [48, 120] (by omega) (by omega) (by simp)
        exact this
      · rw [if_neg f2, if_neg (by omega)]
end T8
end Go.Proofs.YtplhcnlpfoiieaaDoor.Pure
