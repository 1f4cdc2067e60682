/- Plain facts shared by the statements of chapter 1: clipping and padding. No program in sight. -/
import Derived.Test.YtplhcnlpfoiieaaPureText2
import Derived.Test.YtplhcnlpfoiieaaPureText4
import Derived.Test.YtplhcnlpfoiieaaPx67
import Derived.Test.YtplhcnlpfoiieaaPx68
import Derived.Test.YtplhcnlpfoiieaaPx66
import Derived.Test.YtplhcnlpfoiieaaPx69
set_option linter.unusedVariables false
set_option linter.unusedSimpArgs false
namespace Go.Proofs.Ytplhcnlpfoiieaa.Pure
open Go.RowKit Go.Proofs.Ytplhcnlpfoiieaa.P Go.Proofs.YtplhcnlpfoiieaaW.PrintWords Go.Proofs.YtplhcnlpfoiieaaW.PrintLast Go.Proofs.YtplhcnlpfoiieaaW.PrintMore Go.Proofs.Ytplhcnlpfoiieaa.PL

namespace T5
open T4 (pw sumw width clipAt)
/-! ### blanks -/
def sp (n : Nat) : ByteArray := ⟨(List.replicate n 32).toArray⟩
theorem sp_list (n : Nat) : (sp n).data.toList = List.replicate n 32 := rfl
theorem sp_size (n : Nat) : (sp n).size = n := by rw [← size_list, sp_list, List.length_replicate]
theorem repeatSp (n : Nat) (hn : n ≤ 1000000) : strings_Repeat.f (⟨#[32]⟩ : ByteArray) (n : Int) = some (sp n) := by
  unfold strings_Repeat.f
  have h1 : (⟨#[32]⟩ : ByteArray).size = 1 := rfl
  rw [if_pos ⟨by omega, by omega, by rw [h1]; omega⟩]
  congr 1
  unfold sp
  have := Lib.repeatL_replicate 32 1 n
  rw [Nat.mul_one, show List.replicate 1 (32 : UInt8) = [32] from rfl] at this
  rw [← this]
  rfl
theorem str_sp (n : Nat) : strOfNums (List.replicate n (32 : Int)) = sp n := by
  unfold strOfNums sp
  rw [List.map_replicate]
  rfl
theorem spaces_l (n : Nat) (hn : n ≤ 1000000) : ∀ (d k j : Nat), j + d = n → d < k → shardref1_spaces.l0 k (n : Int) (List.replicate j (32 : Int)) (j : Int) = some (sp n)
  | 0, k, j, hj, hk => by
    obtain ⟨k, rfl⟩ : ∃ x, k = x + 1 := ⟨k - 1, by omega⟩
    simp only [shardref1_spaces.l0]
    rw [if_neg (by omega), show j = n by omega, str_sp]
  | d + 1, k, j, hj, hk => by
    obtain ⟨k, rfl⟩ : ∃ x, k = x + 1 := ⟨k - 1, by omega⟩
    simp only [shardref1_spaces.l0]
    rw [if_pos (by omega), if_pos (by rw [List.length_replicate]; omega), wrap64_id (by omega) (by omega)]
    have := spaces_l n hn d k (j + 1) (by omega) (by omega)
    rw [List.replicate_succ'] at this
    rw [show (j : Int) + 1 = ((j + 1 : Nat) : Int) by omega]
    exact this
theorem spaces (n : Nat) (hn : n ≤ 1000000) (k : Nat) (hk : n < k) : shardref1_spaces.f k (n : Int) = some (sp n) := spaces_l n hn n k 0 (by omega) hk

/-! ### padding -/
def ahead (n side : Int) : Nat := if side = 1 then n.toNat else if side = 2 then n.toNat / 2 else 0
def pad (s : ByteArray) (cols side : Int) : ByteArray := sp (ahead (cols - width s) side) ++ s ++ sp ((cols - width s).toNat - ahead (cols - width s) side)
theorem sp_zero_l (s : ByteArray) : sp 0 ++ s = s := by
  apply ByteArray.ext; rw [ByteArray.data_append]; show #[] ++ s.data = s.data; simp
theorem sp_zero_r (s : ByteArray) : s ++ sp 0 = s := by
  apply ByteArray.ext; rw [ByteArray.data_append]; show s.data ++ #[] = s.data; simp
theorem ahead_le (n side : Int) : ahead n side ≤ n.toNat := by unfold ahead; split <;> (try split) <;> omega
theorem size_app (a b : ByteArray) : (a ++ b).size = a.size + b.size := ByteArray.size_append
theorem tPad (s : ByteArray) (hs : s.size ≤ 100000000) (c side : Int) (k : Nat) (hk : s.size + 26 < k) :
    text_Pad.f k s c side = some (if side < 0 ∨ side > 2 ∨ c < 0 ∨ c > 400 then ((⟨#[]⟩ : ByteArray), 2) else (pad s c side, 0)) := by
  obtain ⟨k, rfl⟩ : ∃ x, k = x + 1 := ⟨k - 1, by omega⟩
  have bad : text_Pad.j0 (k + 1) s c side true = some ((⟨#[]⟩ : ByteArray), 2) := by simp only [text_Pad.j0, if_true]
  unfold text_Pad.f
  by_cases c1 : side < 0
  · rw [if_pos c1, bad, if_pos (.inl c1)]
  · rw [if_neg c1]
    by_cases c2 : side > 2
    · rw [if_pos c2, bad, if_pos (.inr (.inl c2))]
    · rw [if_neg c2]
      by_cases c3 : c < 0
      · rw [if_pos c3, bad, if_pos (.inr (.inr (.inl c3)))]
      · rw [if_neg c3]
        by_cases c4 : c > 400
        · rw [decide_eq_true c4, bad, if_pos (.inr (.inr (.inr c4)))]
        · rw [decide_eq_false c4, if_neg (by omega)]
          have hw := T4.width_le s
          simp only [text_Pad.j0, Bool.false_eq_true, if_false]
          rw [T4.tWidth s (by omega) k (by omega)]
          simp only [Option.bind_some]
          rw [wrap64_id (x := c - (width s : Int)) (by omega) (by omega)]
          have hm : mx 0 (c - (width s : Int)) = ((c - (width s : Int)).toNat : Int) := by unfold mx; split <;> omega
          have hn : (c - (width s : Int)).toNat ≤ 400 := by omega
          rw [hm]
          unfold pad ahead
          generalize (c - (width s : Int)).toNat = n at *
          by_cases s1 : side = 1
          · rw [if_pos s1, if_pos s1, repeatSp n (by omega), show (0 : Int) = ((0 : Nat) : Int) from rfl, repeatSp 0 (by omega)]
            simp only [Option.bind_some, sp_size]
            rw [if_pos (by omega), if_pos (by omega), Nat.sub_self]
          · rw [if_neg s1, if_neg s1]
            by_cases s2 : side = 2
            · rw [if_pos s2, if_pos s2, Int.tdiv_eq_ediv_of_nonneg (by omega), wrap64_id (x := (n : Int) / 2) (by omega) (by omega), show (n : Int) / 2 = ((n / 2 : Nat) : Int) by omega, repeatSp (n / 2) (by omega), wrap64_id (x := (n : Int) - ((n / 2 : Nat) : Int)) (by omega) (by omega), show (n : Int) - ((n / 2 : Nat) : Int) = ((n - n / 2 : Nat) : Int) by omega, repeatSp (n - n / 2) (by omega)]
              simp only [Option.bind_some, sp_size]
              rw [if_pos (by omega), if_pos (by omega)]
            · rw [if_neg s2, if_neg s2, show (0 : Int) = ((0 : Nat) : Int) from rfl, repeatSp 0 (by omega), wrap64_id (x := (n : Int)) (by omega) (by omega), repeatSp n (by omega), Nat.sub_zero]
              simp only [Option.bind_some, sp_size]
              rw [if_pos (by omega), if_pos (by omega)]
theorem rPad (s : ByteArray) (hs : s.size ≤ 100000000) (c side : Int) (k : Nat) (hk : s.size + 426 < k) :
    shardref1_Pad.f k s c side = some (if side < 0 ∨ side > 2 ∨ c < 0 ∨ c > 400 then ((⟨#[]⟩ : ByteArray), 2) else (pad s c side, 0)) := by
  obtain ⟨k, rfl⟩ : ∃ x, k = x + 2 := ⟨k - 2, by omega⟩
  have bad : shardref1_Pad.j0 (k + 2) s c side true = some ((⟨#[]⟩ : ByteArray), 2) := by simp only [shardref1_Pad.j0, if_true]
  unfold shardref1_Pad.f
  by_cases c1 : side < 0
  · rw [if_pos c1, bad, if_pos (.inl c1)]
  · rw [if_neg c1]
    by_cases c2 : side > 2
    · rw [if_pos c2, bad, if_pos (.inr (.inl c2))]
    · rw [if_neg c2]
      by_cases c3 : c < 0
      · rw [if_pos c3, bad, if_pos (.inr (.inr (.inl c3)))]
      · rw [if_neg c3]
        by_cases c4 : c > 400
        · rw [decide_eq_true c4, bad, if_pos (.inr (.inr (.inr c4)))]
        · rw [decide_eq_false c4, if_neg (by omega)]
          have hw := T4.width_le s
          simp only [shardref1_Pad.j0, shardref1_Pad.j1, Bool.false_eq_true, if_false]
          rw [T4.rWidth s (by omega) (k + 1) (by omega)]
          simp only [Option.bind_some]
          rw [wrap64_id (x := c - (width s : Int)) (by omega) (by omega)]
          by_cases c5 : c - (width s : Int) ≤ 0
          · rw [if_pos c5]
            unfold pad ahead
            rw [show (c - (width s : Int)).toNat = 0 by omega]
            have e : (if side = 1 then 0 else if side = 2 then 0 / 2 else 0) = 0 := by split <;> (try split) <;> rfl
            rw [e, sp_zero_l, sp_zero_r]
          · rw [if_neg c5]
            have hn : (c - (width s : Int)).toNat ≤ 400 := by omega
            unfold pad ahead
            obtain ⟨n, e⟩ : ∃ n : Nat, c - (width s : Int) = n := ⟨(c - (width s : Int)).toNat, by omega⟩
            rw [e] at hn ⊢
            rw [Int.toNat_natCast] at hn ⊢
            by_cases s1 : side = 1
            · rw [if_pos s1, if_neg (by omega), if_pos s1, spaces n (by omega) k (by omega), wrap64_id (x := (n : Int) - (n : Int)) (by omega) (by omega), show (n : Int) - (n : Int) = ((0 : Nat) : Int) by omega, spaces 0 (by omega) k (by omega)]
              simp only [Option.bind_some, sp_size]
              rw [if_pos (by omega), if_pos (by omega), Nat.sub_self]
            · rw [if_neg s1, if_neg s1]
              by_cases s2 : side = 2
              · rw [if_pos s2, if_pos s2, Int.tdiv_eq_ediv_of_nonneg (by omega), wrap64_id (x := (n : Int) / 2) (by omega) (by omega), show (n : Int) / 2 = ((n / 2 : Nat) : Int) by omega, spaces (n / 2) (by omega) k (by omega), wrap64_id (x := (n : Int) - ((n / 2 : Nat) : Int)) (by omega) (by omega), show (n : Int) - ((n / 2 : Nat) : Int) = ((n - n / 2 : Nat) : Int) by omega, spaces (n - n / 2) (by omega) k (by omega)]
                simp only [Option.bind_some, sp_size]
                rw [if_pos (by omega), if_pos (by omega)]
              · rw [if_neg s2, if_neg s2, show (0 : Int) = ((0 : Nat) : Int) from rfl, spaces 0 (by omega) k (by omega), wrap64_id (x := (n : Int) - ((0 : Nat) : Int)) (by omega) (by omega), show (n : Int) - ((0 : Nat) : Int) = ((n - 0 : Nat) : Int) by omega, spaces (n - 0) (by omega) k (by omega)]
                simp only [Option.bind_some, sp_size]
                rw [if_pos (by omega), if_pos (by omega)]

/-! ### clipping -/
def clip (s : ByteArray) (c : Int) : ByteArray := if c < 0 then ⟨#[]⟩ else s.extract 0 (clipAt s (U.cuts s s.size 0) c)
theorem extract_all (s : ByteArray) : s.extract 0 s.size = s := by
  apply ByteArray.ext
  rw [← Array.toList_inj, ← toList_data, extract_list, List.drop_zero, List.take_of_length_le (by rw [size_list]; omega)]
theorem tClip_l (s : ByteArray) (hs : s.size ≤ 100000000) (c : Int) (L : List Nat) (hL : L.length ≤ s.size) (hm : ∀ i ∈ L, i < s.size) (d : Nat) : ∀ (k j acc : Nat), j + d = L.length → d + 24 < k → acc ≤ 2 * j → (acc : Int) ≤ c →
    text_Clip.l0 k s c (acc : Int) (L.map (text_Pieces.at_ s)) (L.length : Int) (j : Int) = some (s.extract 0 (clipAt s (L.drop j) (c - acc))) := by
  induction d with
  | zero =>
    intro k j acc hd hk ha hac
    obtain ⟨k, rfl⟩ : ∃ x, k = x + 1 := ⟨k - 1, by omega⟩
    simp only [text_Clip.l0]
    rw [if_neg (by omega), List.drop_eq_nil_of_le (by omega), clipAt, extract_all]
  | succ d IH =>
    intro k j acc hd hk ha hac
    obtain ⟨k, rfl⟩ : ∃ x, k = x + 1 := ⟨k - 1, by omega⟩
    have hjl : j < L.length := by omega
    have hp := T4.pw_le s L[j]
    have hi := hm L[j] (List.getElem_mem hjl)
    simp only [text_Clip.l0, T4.rd28 s L j hjl]
    rw [if_pos (by omega), if_pos (by omega), if_pos (by rw [List.length_map]; omega), T4.tWide1 s _ k (by omega)]
    rw [Option.bind_some, List.drop_eq_getElem_cons hjl, clipAt]
    have ih := IH k (j + 1) (acc + pw s L[j]) (by omega) (by omega) (by omega)
    clear IH hm
    generalize L[j] = i at *
    generalize pw s i = q at *
    have b1 : acc + q ≤ 300000000 := by omega
    have b2 : j ≤ 300000000 := by omega
    have w1 : wrap64 ((acc : Int) + (q : Int)) = (acc : Int) + (q : Int) := wrap64_id (by clear ih; omega) (by clear ih; omega)
    have w2 : wrap64 ((j : Int) + 1) = (j : Int) + 1 := wrap64_id (by clear ih; omega) (by clear ih; omega)
    rw [w1, w2]
    by_cases hgt : (acc : Int) + (q : Int) > c
    · rw [if_pos hgt, if_pos (show (q : Int) > c - acc by clear ih; omega), if_pos (by clear ih; omega), if_pos (by clear ih; omega), Int.toNat_natCast]
    · rw [if_neg hgt, if_neg (show ¬ (q : Int) > c - acc by clear ih; omega)]
      have e : c - (acc : Int) - (q : Int) = c - ((acc + q : Nat) : Int) := by clear ih; omega
      have ih := ih (by clear ih; omega)
      rw [show (acc : Int) + (q : Int) = ((acc + q : Nat) : Int) from rfl, show (j : Int) + 1 = ((j + 1 : Nat) : Int) from rfl, ih, e]
theorem tClip (s : ByteArray) (hs : s.size ≤ 100000000) (c : Int) (hc2 : c ≤ 9223372036854775807) (k : Nat) (hk : s.size + 24 < k) : text_Clip.f k s c = some (clip s c) := by
  have hl := U.cuts_len s s.size 0
  unfold text_Clip.f clip
  by_cases h : c < 0
  · rw [if_pos h, if_pos h]
  · rw [if_neg h, if_neg h, T0.tpieces s (by omega)]
    simp only [Option.bind_some]
    have := tClip_l s hs c (U.cuts s s.size 0) (by omega) (T0.cuts_lt s s.size 0) _ k 0 0 (by rw [Nat.zero_add]) (by omega) (by omega) (by omega)
    rw [List.length_map]
    simpa using this
theorem rClip_l (s : ByteArray) (hs : s.size ≤ 100000000) (L : List Nat) (hL : L.length ≤ s.size) (hm : ∀ i ∈ L, i < s.size) : ∀ (d k j e : Nat) (left : Int), L.drop j = U.cuts s d e → s.size ≤ e + d → e ≤ s.size → j ≤ L.length → d + 24 < k → 0 ≤ left → left ≤ 9223372036854775807 →
    shardref1_Clip.l0 k s (L.map (T0.mkR s)) (e : Int) left (j : Int) = some (s.extract 0 (clipAt s (L.drop j) left))
  | d, k, j, e, left, hd, hse, he, hj, hk, hl0, hl1 => by
    obtain ⟨k, rfl⟩ : ∃ x, k = x + 1 := ⟨k - 1, by omega⟩
    simp only [shardref1_Clip.l0, List.length_map]
    by_cases hlt : e < s.size
    · obtain ⟨d, rfl⟩ : ∃ x, d = x + 1 := ⟨d - 1, by omega⟩
      rw [U.cuts, if_pos hlt] at hd
      have hjl : j < L.length := by
        have := congrArg List.length hd
        simp at this
        omega
      rw [List.drop_eq_getElem_cons hjl] at hd ⊢
      injection hd with hd1 hd2
      have hp := T4.pw_le s L[j]
      have hst := U.stp_le s e hlt
      rw [if_pos (by omega), if_pos (by omega), T4.rd72 s L j hjl]
      simp only []
      rw [T4.rColumns s _ k (by omega), hd1]
      rw [hd1] at hp
      simp only [Option.bind_some, clipAt]
      by_cases hgt : (pw s e : Int) > left
      · rw [if_pos hgt, if_pos hgt, if_pos (by omega), if_pos (by omega), Int.toNat_natCast]
      · rw [if_neg hgt, if_neg hgt, wrap64_id (x := (e : Int) + (U.stp s e : Int)) (by omega) (by omega), wrap64_id (x := left - (pw s e : Int)) (by omega) (by omega), wrap64_id (x := (j : Int) + 1) (by omega) (by omega)]
        have ih := rClip_l s hs L hL hm d k (j + 1) (e + U.stp s e) (left - pw s e) hd2 (by have := U.stp_pos s e; omega) (by omega) (by omega) (by omega) (by omega) (by omega)
        rw [show (e : Int) + (U.stp s e : Int) = ((e + U.stp s e : Nat) : Int) by omega, show (j : Int) + 1 = ((j + 1 : Nat) : Int) by omega]
        exact ih
    · rw [U.cuts_end s d e hlt] at hd
      have hjl : L.length ≤ j := by
        have := congrArg List.length hd
        simp at this
        omega
      rw [if_neg (by omega), if_pos (by omega), if_pos (by omega), hd, clipAt, Int.toNat_natCast, show e = s.size by omega]
theorem rClip (s : ByteArray) (hs : s.size ≤ 100000000) (c : Int) (hc2 : c ≤ 9223372036854775807) (k : Nat) (hk : s.size + 24 < k) : shardref1_Clip.f k s c = some (clip s c) := by
  have hl := U.cuts_len s s.size 0
  unfold shardref1_Clip.f clip
  by_cases h : c < 0
  · rw [if_pos h, if_pos h]
  · rw [if_neg h, if_neg h, T0.pieces s (by omega) k (by omega)]
    simp only [Option.bind_some]
    have := rClip_l s hs (U.cuts s s.size 0) (by omega) (T0.cuts_lt s s.size 0) s.size k 0 0 c (by rw [List.drop_zero]) (by omega) (by omega) (by omega) (by omega) (by omega) hc2
    simpa using this
end T5
end Go.Proofs.Ytplhcnlpfoiieaa.Pure
