/- Every string is cut by the program as the document's table says; a list that its holder spoils spoils no later answer. -/
import Derived.Test.YtplhcnlpfoiieaaPureText0
import Derived.Test.YtplhcnlpfoiieaaPx83
set_option linter.unusedVariables false
set_option linter.unusedSimpArgs false
namespace Go.Proofs.Ytplhcnlpfoiieaa.Pure
open Go.RowKit Go.Proofs.Ytplhcnlpfoiieaa.P Go.Proofs.YtplhcnlpfoiieaaW.PrintWords Go.Proofs.YtplhcnlpfoiieaaW.PrintLast Go.Proofs.Ytplhcnlpfoiieaa.PL

namespace TP
abbrev P (s : ByteArray) := (U.cuts s s.size 0).map (text_Pieces.at_ s)
abbrev R (s : ByteArray) := (U.cuts s s.size 0).map (T0.mkR s)
section
variable (s t : ByteArray) (hs : s.size < 1000000000) (ht : t.size < 1000000000)
include hs ht
theorem end2 (x4 : List (S28)) (h4 : x4.length = (R s).length + 40) : ∀ (d k i : Nat) (x7 : List (S28)), i + d = x7.length → s.size + t.size + d + 2 < k → x7.length < 1000000000 →
    shardlaw1_TextPieces.l2 k s (R s) x4 true (P t) x7 (R t) (i : Int) = some true
  | 0, k, i, x7, hi, hk, h7 => by
    obtain ⟨k, rfl⟩ : ∃ x, k = x + 1 := ⟨k - 1, by omega⟩
    simp only [shardlaw1_TextPieces.l2]
    have hl := U.cuts_len s s.size 0
    rw [if_neg (show ¬ (i : Int) < (x7.length : Int) by omega), T0.tpieces s (by omega)]
    simp only [Option.bind_some, if_true]
    rw [T0.same s (by omega) k (by omega)]
    simp only [Option.bind_some, if_true]
    rw [T0.same t (by omega) k (by omega)]
    simp only [Option.bind_some, if_true]
    rw [List.length_map] at h4
    rw [List.length_map, h4, wrap64_id (by omega) (by omega)]
    congr 1
    rw [beq_iff_eq]; omega
  | d + 1, k, i, x7, hi, hk, h7 => by
    obtain ⟨k, rfl⟩ : ∃ x, k = x + 1 := ⟨k - 1, by omega⟩
    simp only [shardlaw1_TextPieces.l2]
    rw [if_pos (show (i : Int) < (x7.length : Int) by omega), if_pos (show (0 : Int) ≤ (i : Int) by omega), wrap64_id (x := (i : Int) + 1) (by omega) (by omega)]
    exact end2 x4 h4 d k (i + 1) _ (by rw [List.length_set]; omega) (by omega) (by rw [List.length_set]; exact h7)
theorem end1 : ∀ (d k i : Nat) (x4 : List (S28)), i + d = 40 → x4.length = (R s).length + i → 2 * s.size + t.size + d + 6 < k →
    shardlaw1_TextPieces.l1 k s (R s) x4 (P t) (P s) (R t) (i : Int) = some true
  | 0, k, i, x4, hi, h4, hk => by
    obtain ⟨k, rfl⟩ : ∃ x, k = x + 1 := ⟨k - 1, by omega⟩
    simp only [shardlaw1_TextPieces.l1]
    have hl := U.cuts_len s s.size 0
    rw [if_neg (show ¬ (i : Int) < 40 by omega), T0.same s (by omega) k (by omega)]
    simp only [Option.bind_some, if_true]
    rw [T0.same t (by omega) k (by omega)]
    simp only [Option.bind_some]
    obtain ⟨k, rfl⟩ : ∃ x, k = x + 1 := ⟨k - 1, by omega⟩
    simp only [shardlaw1_TextPieces.j3]
    exact end2 s t hs ht x4 (by omega) (P s).length k 0 _ (by omega) (by rw [List.length_map]; omega) (by rw [List.length_map]; omega)
  | d + 1, k, i, x4, hi, h4, hk => by
    obtain ⟨k, rfl⟩ : ∃ x, k = x + 1 := ⟨k - 1, by omega⟩
    have hl := U.cuts_len s s.size 0
    simp only [shardlaw1_TextPieces.l1]
    rw [List.length_map] at h4
    rw [if_pos (show (i : Int) < 40 by omega), if_pos (show x4.length < 4398046511104 by omega), wrap64_id (x := (i : Int) + 1) (by omega) (by omega)]
    exact end1 d k (i + 1) _ (by omega) (by rw [List.length_append, List.length_map]; simp; omega) (by omega)
theorem end0 : ∀ (d k i : Nat) (x4 : List (S28)), i + d = x4.length → x4.length = (R s).length → 2 * s.size + t.size + d + 60 < k →
    shardlaw1_TextPieces.l0 k s (R s) x4 (P t) (P s) (R t) (i : Int) = some true
  | 0, k, i, x4, hi, h4, hk => by
    obtain ⟨k, rfl⟩ : ∃ x, k = x + 1 := ⟨k - 1, by omega⟩
    simp only [shardlaw1_TextPieces.l0]
    rw [if_neg (show ¬ (i : Int) < (x4.length : Int) by omega)]
    exact end1 s t hs ht 40 k 0 x4 (by omega) (by omega) (by omega)
  | d + 1, k, i, x4, hi, h4, hk => by
    obtain ⟨k, rfl⟩ : ∃ x, k = x + 1 := ⟨k - 1, by omega⟩
    have hl := U.cuts_len s s.size 0
    simp only [shardlaw1_TextPieces.l0]
    have h5 := h4
    rw [List.length_map] at h5
    rw [if_pos (show (i : Int) < (x4.length : Int) by omega), if_pos (show (0 : Int) ≤ (i : Int) by omega), wrap64_id (x := (i : Int) + 1) (by omega) (by omega)]
    exact end0 d k (i + 1) _ (by rw [List.length_set]; omega) (by rw [List.length_set]; exact h4) (by omega)
end
end TP

theorem TextPieces (s : ByteArray) (hs : s.size ≤ 1048576) : ∃ k, shardlaw1_TextPieces.f k s = some true := by
  have hl := U.cuts_len s s.size 0
  have hq : ((⟨#[113]⟩ : ByteArray) ++ s).size = 1 + s.size := by rw [ByteArray.size_append]; rfl
  refine ⟨10 * s.size + 200, ?_⟩
  unfold shardlaw1_TextPieces.f
  rw [T0.pieces s (by omega) _ (by omega), T0.tpieces s (by omega)]
  simp only [Option.bind_some]
  rw [T0.same s (by omega) _ (by omega)]
  simp only [Option.bind_some, if_true]
  rw [if_pos (by omega), T0.tpieces _ (by rw [hq]; omega)]
  simp only [Option.bind_some, if_true]
  rw [T0.pieces _ (by rw [hq]; omega) _ (by rw [hq]; omega)]
  simp only [Option.bind_some, if_true]
  rw [T0.same _ (by rw [hq]; omega) _ (by rw [hq]; omega)]
  simp only [Option.bind_some, if_true, shardlaw1_TextPieces.j0]
  refine TP.end0 s _ (by omega) (by rw [hq]; omega) (TP.P s).length _ 0 _ (Nat.zero_add _) (by simp) ?_
  rw [List.length_map, hq]
  omega
end Go.Proofs.Ytplhcnlpfoiieaa.Pure
