/- Without the document's answer: the pieces, laid end to end, are the string; a rune's bytes are its encoding; a broken byte is one byte from 128 on. -/
import Derived.Test.YtplhcnlpfoiieaaPureText1
import Derived.Test.YtplhcnlpfoiieaaPx87
set_option linter.unusedVariables false
set_option linter.unusedSimpArgs false
namespace Go.Proofs.Ytplhcnlpfoiieaa.Pure
open Go.RowKit Go.Proofs.Ytplhcnlpfoiieaa.P Go.Proofs.YtplhcnlpfoiieaaW.PrintWords Go.Proofs.YtplhcnlpfoiieaaW.PrintLast Go.Proofs.Ytplhcnlpfoiieaa.PL

namespace TW
/-- A whole rune's bytes are its encoding. -/
theorem enc_at (s : ByteArray) (i : Nat) (hi : i < s.size) (hu : U.usz s i ≠ 0) : T1.good (U.uval s i (U.usz s i)) ∧ (T1.enc (U.uval s i (U.usz s i))).data.toList = (s.data.toList.drop i).take (U.usz s i) := by
  have hr := U.uval_range s i hi hu
  have hg : T1.good (U.uval s i (U.usz s i)) := by unfold T1.good; omega
  refine ⟨hg, ?_⟩
  rw [T1.enc_list _ hg]
  have hl : s.data.toList.length = s.size := size_list s
  have hB := fun j => U.B_list s j
  have u8 : ∀ (n : Nat) (c : UInt8), n = c.toNat → UInt8.ofNat n = c := fun n c h => by rw [h, UInt8.ofNat_toNat]
  have dr : ∀ j, j < s.size → s.data.toList.drop j = s.data.toList.getD j 0 :: s.data.toList.drop (j + 1) := by
    intro j hj
    rw [List.drop_eq_getElem_cons (by rw [hl]; exact hj), List.getD_eq_getElem?_getD, List.getElem?_eq_getElem (by rw [hl]; exact hj)]
    rfl
  rcases U.usz_cases s i hi with ⟨h, hc⟩ | ⟨h, hc⟩ | ⟨h, hc⟩ | ⟨h, hc⟩ | ⟨h, hc⟩
  · rw [h] at hr ⊢
    rw [if_pos (by omega), dr i hi, List.take_succ_cons, List.take_zero]
    simp only [U.uval, if_true]
    rw [u8 _ _ (hB i)]
  · rw [h] at hr ⊢
    rw [if_neg (by omega), if_pos (by omega), dr i hi, dr (i + 1) (by omega), List.take_succ_cons, List.take_succ_cons, List.take_zero]
    have e : U.uval s i 2 = (U.B s i - 192) * 64 + (U.B s (i + 1) - 128) := by simp [U.uval]
    rw [u8 _ (s.data.toList.getD i 0) (by rw [← hB, e]; omega), u8 _ (s.data.toList.getD (i + 1) 0) (by rw [← hB, e]; omega)]
  · rw [h] at hr ⊢
    rw [if_neg (by omega), if_neg (by omega), if_pos (by omega), dr i hi, dr (i + 1) (by omega), dr (i + 1 + 1) (by omega), List.take_succ_cons, List.take_succ_cons, List.take_succ_cons, List.take_zero]
    have e : U.uval s i 3 = ((U.B s i - 224) * 64 + (U.B s (i + 1) - 128)) * 64 + (U.B s (i + 2) - 128) := by simp [U.uval]
    rw [u8 _ (s.data.toList.getD i 0) (by rw [← hB, e]; omega), u8 _ (s.data.toList.getD (i + 1) 0) (by rw [← hB, e]; omega), u8 _ (s.data.toList.getD (i + 1 + 1) 0) (by rw [show i + 1 + 1 = i + 2 from rfl, ← hB, e]; omega)]
  · rw [h] at hr ⊢
    rw [if_neg (by omega), if_neg (by omega), if_neg (by omega), dr i hi, dr (i + 1) (by omega), dr (i + 1 + 1) (by omega), dr (i + 1 + 1 + 1) (by omega), List.take_succ_cons, List.take_succ_cons, List.take_succ_cons, List.take_succ_cons, List.take_zero]
    have e : U.uval s i 4 = (((U.B s i - 240) * 64 + (U.B s (i + 1) - 128)) * 64 + (U.B s (i + 2) - 128)) * 64 + (U.B s (i + 3) - 128) := by simp [U.uval]
    rw [u8 _ (s.data.toList.getD i 0) (by rw [← hB, e]; omega), u8 _ (s.data.toList.getD (i + 1) 0) (by rw [← hB, e]; omega), u8 _ (s.data.toList.getD (i + 1 + 1) 0) (by rw [show i + 1 + 1 = i + 2 from rfl, ← hB, e]; omega), u8 _ (s.data.toList.getD (i + 1 + 1 + 1) 0) (by rw [show i + 1 + 1 + 1 = i + 3 from rfl, ← hB, e]; omega)]
  · exact absurd h hu
/-- What is left of the list of places from place j on: the pieces from p on. -/
theorem loop (s : ByteArray) (hs : s.size < 1000000000) (l : List Nat) (hlen : l.length ≤ s.size) : ∀ (d k j p : Nat), l.drop j = U.cuts s d p → s.size ≤ p + d → p ≤ s.size → j ≤ l.length → 3 * d + 3 ≤ k →
    shardlaw1_TextWhole.l0 k s (l.map (text_Pieces.at_ s)) (p : Int) (j : Int) = some true
  | d, k, j, p, hd, hp, hps, hj, hk => by
    obtain ⟨k, rfl⟩ : ∃ x, k = x + 1 := ⟨k - 1, by omega⟩
    simp only [shardlaw1_TextWhole.l0, List.length_map]
    by_cases hlt : p < s.size
    · obtain ⟨d, rfl⟩ : ∃ x, d = x + 1 := ⟨d - 1, by omega⟩
      rw [U.cuts, if_pos hlt] at hd
      have hjl : j < l.length := by
        have := congrArg List.length hd
        simp at this
        omega
      have hd2 : l.drop (j + 1) = U.cuts s d (p + U.stp s p) := by
        have := congrArg List.tail hd
        simpa using this
      have hlj : l[j] = p := by
        have := congrArg List.head? hd
        simp at this
        rw [List.getElem?_eq_getElem hjl] at this
        simpa using this
      have er : rd_T28 (l.map (text_Pieces.at_ s)) (j : Int) = ⟨(U.rn s p : Int), (p : Int), (U.stp s p : Int), decide (U.usz s p = 0)⟩ := by simp [rd_T28, hjl, hlj, text_Pieces.at_]
      have h1 := U.stp_pos s p
      have h2 := U.stp_le s p hlt
      have hb := U.B_lt s p
      rw [if_pos (show (j : Int) < (l.length : Int) by omega), if_pos (show (0 : Int) ≤ (j : Int) by omega), er]
      simp only []
      rw [if_pos trivial, if_neg (show ¬ (U.stp s p : Int) < 1 by omega), if_neg (show ¬ (U.stp s p : Int) > 4 by omega), wrap64_id (x := (p : Int) + (U.stp s p : Int)) (by omega) (by omega), decide_eq_false (show ¬ (p : Int) + (U.stp s p : Int) > (s.size : Int) by omega)]
      obtain ⟨k, rfl⟩ : ∃ x, k = x + 1 := ⟨k - 1, by omega⟩
      simp only [shardlaw1_TextWhole.j1, Bool.false_eq_true, if_false]
      rw [T1.tEncode k _ (by omega)]
      simp only [Option.bind_some]
      rw [wrap64_id (x := (p : Int) + (U.stp s p : Int)) (by omega) (by omega), wrap64_id (x := (j : Int) + 1) (by omega) (by omega)]
      have next : ∀ k, 3 * d + 3 ≤ k → shardlaw1_TextWhole.l0 k s (l.map (text_Pieces.at_ s)) ((p : Int) + (U.stp s p : Int)) ((j : Int) + 1) = some true := by
        intro k hk
        have := loop s hs l hlen d k (j + 1) (p + U.stp s p) hd2 (by omega) h2.1 (by omega) hk
        rwa [show ((p + U.stp s p : Nat) : Int) = (p : Int) + (U.stp s p : Int) by omega, show ((j + 1 : Nat) : Int) = (j : Int) + 1 by omega] at this
      by_cases hu : U.usz s p = 0
      · have hge : 128 ≤ U.B s p := by
          rcases U.usz_cases s p hlt with ⟨h, hc⟩ | ⟨h, hc⟩ | ⟨h, hc⟩ | ⟨h, hc⟩ | ⟨h, hc⟩ <;> omega
        have e1 : U.stp s p = 1 := by simp [U.stp, hu]
        have e2 : U.rn s p = U.B s p := by simp [U.rn, hu]
        rw [decide_eq_true hu, if_pos (rfl : true = true), if_pos (show (U.stp s p : Int) = 1 by omega), e2, if_neg (show ¬ (U.B s p : Int) < 128 by omega), if_pos (show (0 : Int) ≤ (p : Int) by omega), if_pos (show (p : Int) < (s.size : Int) by omega), T0.bt_B, if_pos (show (U.B s p : Int) % 256 = (U.B s p : Int) by omega), decide_eq_false (show ¬ (U.B s p : Int) > 255 by omega)]
        obtain ⟨k, rfl⟩ : ∃ x, k = x + 1 := ⟨k - 1, by omega⟩
        simp only [shardlaw1_TextWhole.j2, Bool.false_eq_true, if_false]
        rw [wrap64_id (x := (j : Int) + 1) (by omega) (by omega)]
        exact next k (by omega)
      · have e1 : U.stp s p = U.usz s p := by simp [U.stp, hu]
        have e2 : U.rn s p = U.uval s p (U.usz s p) := by simp [U.rn, hu]
        obtain ⟨hg, he⟩ := enc_at s p hlt hu
        have hcond : (T1.enc (U.uval s p (U.usz s p) : Int)).toList = (s.extract (p : Int).toNat ((p : Int) + (U.stp s p : Int)).toNat).toList := by
          rw [toList_data, he, extract_list, show ((p : Int) + (U.stp s p : Int)).toNat - (p : Int).toNat = U.usz s p by omega, Int.toNat_natCast]
        rw [decide_eq_false hu, e2, if_pos hg, if_neg (show ¬ (false = true) by decide)]
        simp only []
        rw [if_pos trivial, if_pos (show (0 : Int) ≤ (p : Int) by omega), if_pos (show (p : Int) ≤ (p : Int) + (U.stp s p : Int) by omega), if_pos (show (p : Int) + (U.stp s p : Int) ≤ (s.size : Int) by omega), if_pos hcond]
        exact next k (by omega)
    · have hnil : l.drop j = [] := by rw [hd]; exact U.cuts_end s d p hlt
      have hjl : l.length ≤ j := by
        have := congrArg List.length hnil
        simp at this
        omega
      rw [if_neg (show ¬ (j : Int) < (l.length : Int) by omega)]
      congr 1
      rw [beq_iff_eq]
      omega
end TW
theorem TextWhole (s : ByteArray) (hs : s.size ≤ 1048576) : ∃ k, shardlaw1_TextWhole.f k s = some true := by
  refine ⟨3 * s.size + 10, ?_⟩
  have hl := U.cuts_len s s.size 0
  unfold shardlaw1_TextWhole.f
  rw [T0.tpieces s (by omega)]
  simp only [Option.bind_some]
  exact TW.loop s (by omega) _ (by omega) s.size _ 0 0 (by simp) (by omega) (by omega) (by omega) (by omega)
end Go.Proofs.Ytplhcnlpfoiieaa.Pure
