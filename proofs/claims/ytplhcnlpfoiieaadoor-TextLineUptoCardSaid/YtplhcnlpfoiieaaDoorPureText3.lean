/- Plain facts shared by the statements of chapter 1: a whole rune's bytes in the string are its encoding; hexadecimal digits. No program in sight. -/
import Derived.Test.YtplhcnlpfoiieaaDoorPureText1
import Derived.Lib.RuneBytes
import Derived.Laws.BitsLemmas
set_option linter.unusedVariables false
set_option linter.unusedSimpArgs false
namespace Go.Proofs.YtplhcnlpfoiieaaDoor.Pure
open Go.RowKit Go.Proofs.YtplhcnlpfoiieaaDoor.P Go.Proofs.YtplhcnlpfoiieaaDoorW.PrintWords Go.Proofs.YtplhcnlpfoiieaaDoorW.PrintLast Go.Proofs.YtplhcnlpfoiieaaDoor.PL

namespace T3
/-- A whole rune's bytes are its encoding. -/
theorem enc_at (s : ByteArray) (i : Nat) (hi : i < s.size) (hu : U.usz s i ≠ 0) : T1.good (U.uval s i (U.usz s i)) ∧ (T1.enc (U.uval s i (U.usz s i))).data.toList = (s.data.toList.drop i).take (U.usz s i) := by
  have hr := U.uval_range s i hi hu
  have hg : T1.good (U.uval s i (U.usz s i)) := by unfold T1.good; omega
  refine ⟨hg, ?_⟩
  rw [T1.enc_list _ hg]
  have hl : s.data.toList.length = s.size := size_list s
  have hB := fun j => U.B_list s j
  have u8 : ∀ (n : Nat) (c : UInt8), n = c.toNat → UInt8.ofNat n = c := fun n c h => by rw [h, UInt8.ofNat_toNat]
  have dr : ∀ j, j < s.size → s.data.toList.drop j = s.data.toList.getD j 0 :: s.data.toList.drop (j + 1) := by
    intro j hj
    rw [List.drop_eq_getElem_cons (by rw [hl]; exact hj), List.getD_eq_getElem?_getD, List.getElem?_eq_getElem (by rw [hl]; exact hj)]
    rfl
  rcases U.usz_cases s i hi with ⟨h, hc⟩ | ⟨h, hc⟩ | ⟨h, hc⟩ | ⟨h, hc⟩ | ⟨h, hc⟩
  · rw [h] at hr ⊢
    rw [if_pos (by omega), dr i hi, List.take_succ_cons, List.take_zero]
    simp only [U.uval, if_true]
    rw [u8 _ _ (hB i)]
  · rw [h] at hr ⊢
    rw [if_neg (by omega), if_pos (by omega), dr i hi, dr (i + 1) (by omega), List.take_succ_cons, List.take_succ_cons, List.take_zero]
    have e : U.uval s i 2 = (U.B s i - 192) * 64 + (U.B s (i + 1) - 128) := by simp [U.uval]
    rw [u8 _ (s.data.toList.getD i 0) (by rw [← hB, e]; omega), u8 _ (s.data.toList.getD (i + 1) 0) (by rw [← hB, e]; omega)]
  · rw [h] at hr ⊢
    rw [if_neg (by omega), if_neg (by omega), if_pos (by omega), dr i hi, dr (i + 1) (by omega), dr (i + 1 + 1) (by omega), List.take_succ_cons, List.take_succ_cons, List.take_succ_cons, List.take_zero]
    have e : U.uval s i 3 = ((U.B s i - 224) * 64 + (U.B s (i + 1) - 128)) * 64 + (U.B s (i + 2) - 128) := by simp [U.uval]
    rw [u8 _ (s.data.toList.getD i 0) (by rw [← hB, e]; omega), u8 _ (s.data.toList.getD (i + 1) 0) (by rw [← hB, e]; omega), u8 _ (s.data.toList.getD (i + 1 + 1) 0) (by rw [show i + 1 + 1 = i + 2 from rfl, ← hB, e]; omega)]
  · rw [h] at hr ⊢
    rw [if_neg (by omega), if_neg (by omega), if_neg (by omega), dr i hi, dr (i + 1) (by omega), dr (i + 1 + 1) (by omega), dr (i + 1 + 1 + 1) (by omega), List.take_succ_cons, List.take_succ_cons, List.take_succ_cons, List.take_succ_cons, List.take_zero]
    have e : U.uval s i 4 = (((U.B s i - 240) * 64 + (U.B s (i + 1) - 128)) * 64 + (U.B s (i + 2) - 128)) * 64 + (U.B s (i + 3) - 128) := by simp [U.uval]
    rw [u8 _ (s.data.toList.getD i 0) (by rw [← hB, e]; omega), u8 _ (s.data.toList.getD (i + 1) 0) (by rw [← hB, e]; omega), u8 _ (s.data.toList.getD (i + 1 + 1) 0) (by rw [show i + 1 + 1 = i + 2 from rfl, ← hB, e]; omega), u8 _ (s.data.toList.getD (i + 1 + 1 + 1) 0) (by rw [show i + 1 + 1 + 1 = i + 3 from rfl, ← hB, e]; omega)]
  · exact absurd h hu
/-- The same, in the words of the program's own encoder. -/
theorem encZ (n : Nat) (hg : T1.good (n : Int)) : Lib.encodeRuneZ (n : Int) = (T1.enc (n : Int)).data.toList.map fun c => (c.toNat : Int) := by
  rw [T1.enc_list _ hg]
  unfold T1.good at hg
  have u : ∀ m : Nat, m < 256 → (UInt8.ofNat m).toNat = m := fun m h => by rw [UInt8.toNat_ofNat']; omega
  split
  · rw [Lib.encodeRuneZ_one (by omega) (by omega)]
    simp only [List.map_cons, List.map_nil]
    rw [u _ (by omega)]
  · split
    · rw [Lib.encodeRuneZ_two (by omega) (by omega)]
      simp only [List.map_cons, List.map_nil]
      rw [u _ (by omega), u _ (by omega)]
      simp
    · split
      · rw [Lib.encodeRuneZ_three (by omega)]
        simp only [List.map_cons, List.map_nil]
        rw [u _ (by omega), u _ (by omega), u _ (by omega)]
        simp
      · rw [Lib.encodeRuneZ_four (by omega) (by omega)]
        simp only [List.map_cons, List.map_nil]
        rw [u _ (by omega), u _ (by omega), u _ (by omega), u _ (by omega)]
        simp
/-- A hexadecimal digit. -/
def hd (d : Nat) : Int := if d < 10 then 48 + d else 87 + d
theorem hd_range (d : Nat) (h : d < 16) : 48 ≤ hd d ∧ hd d ≤ 102 := by unfold hd; split <;> omega
theorem table (d : Nat) (h : d < 16) : bt (⟨#[48, 49, 50, 51, 52, 53, 54, 55, 56, 57, 97, 98, 99, 100, 101, 102]⟩ : ByteArray) (d : Int) = hd d := by
  have : ∀ d, d < 16 → bt (⟨#[48, 49, 50, 51, 52, 53, 54, 55, 56, 57, 97, 98, 99, 100, 101, 102]⟩ : ByteArray) ((d : Nat) : Int) = hd d := by decide
  exact this d h
theorem and15 (n : Nat) (h : n < 2147483648) : Go.bits .and .i32 (n : Int) 15 = ((n % 16 : Nat) : Int) := by
  have e := (bits_nat .i32 31 (by decide) (fun m h0 h1 => wraps_i32 m h0 h1) n 15 (by simpa using h) (by decide)).1
  rw [show ((15 : Nat) : Int) = 15 from rfl] at e
  rw [e, show (15 : Nat) = 2 ^ 4 - 1 from rfl, Nat.and_two_pow_sub_one_eq_mod]
theorem and15u (n : Nat) (h : n < 18446744073709551616) : Go.bits .and .u64 (n : Int) 15 = ((n % 16 : Nat) : Int) := by
  have e := (bits_nat .u64 64 (by decide) (fun m h0 h1 => u64_id h0 (by simpa using h1)) n 15 (by simpa using h) (by decide)).1
  rw [show ((15 : Nat) : Int) = 15 from rfl] at e
  rw [e, show (15 : Nat) = 2 ^ 4 - 1 from rfl, Nat.and_two_pow_sub_one_eq_mod]
/-- The digits of a number, 16 to the digit, none of 0. -/
def hexs : Nat → Nat → List Int
  | 0, _ => []
  | f + 1, n => if n = 0 then [] else hexs f (n / 16) ++ [hd (n % 16)]
end T3
end Go.Proofs.YtplhcnlpfoiieaaDoor.Pure
