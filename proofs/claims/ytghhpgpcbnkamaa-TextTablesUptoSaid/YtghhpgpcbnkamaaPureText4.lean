/- Plain facts shared by the statements of chapter 1: columns, widths, clipping. No program in sight. -/
import Derived.Test.YtghhpgpcbnkamaaPureTextH
import Derived.Test.YtghhpgpcbnkamaaPx15
import Derived.Test.YtghhpgpcbnkamaaPx7
set_option linter.unusedVariables false
set_option linter.unusedSimpArgs false
namespace Go.Proofs.Ytghhpgpcbnkamaa.Pure
open Go.RowKit Go.Proofs.Ytghhpgpcbnkamaa.P Go.Proofs.YtghhpgpcbnkamaaW.PrintWords Go.Proofs.YtghhpgpcbnkamaaW.PrintLast Go.Proofs.Ytghhpgpcbnkamaa.PL

namespace T4
def mk (a0 : Int) : Bool := decide ((768 ≤ a0 ∧ a0 ≤ 879) ∨ (1155 ≤ a0 ∧ a0 ≤ 1161) ∨ (1425 ≤ a0 ∧ a0 ≤ 1469) ∨ (1611 ≤ a0 ∧ a0 ≤ 1631) ∨ (6832 ≤ a0 ∧ a0 ≤ 6911) ∨ (7616 ≤ a0 ∧ a0 ≤ 7679) ∨ (8400 ≤ a0 ∧ a0 ≤ 8447) ∨ (65024 ≤ a0 ∧ a0 ≤ 65039) ∨ (65056 ≤ a0 ∧ a0 ≤ 65071))
def wd (a0 : Int) : Bool := decide ((4352 ≤ a0 ∧ a0 ≤ 4447) ∨ (11904 ≤ a0 ∧ a0 ≤ 12350) ∨ (12353 ≤ a0 ∧ a0 ≤ 19903) ∨ (19968 ≤ a0 ∧ a0 ≤ 42191) ∨ (44032 ≤ a0 ∧ a0 ≤ 55203) ∨ (63744 ≤ a0 ∧ a0 ≤ 64255) ∨ (65072 ≤ a0 ∧ a0 ≤ 65135) ∨ (65281 ≤ a0 ∧ a0 ≤ 65376) ∨ (65504 ≤ a0 ∧ a0 ≤ 65510) ∨ (127744 ≤ a0 ∧ a0 ≤ 128591) ∨ (129280 ≤ a0 ∧ a0 ≤ 129535) ∨ (131072 ≤ a0 ∧ a0 ≤ 262141))
/-- The columns of a rune. -/
def colw (r : Int) : Nat := if T1.hid r = true ∨ mk r = true then 0 else if wd r = true then 2 else 1
theorem marksIn (k : Nat) (r : Int) (hk : 20 < k) : (text_marks.f).bind (fun t => text_in.f k t r) = some (mk r) := by
  simp only [text_marks.f, Option.bind_some]
  rw [T1.in_ _ _ (by decide) (by decide) (by decide) k (by simp; omega)]
  congr 1
  simp only [T1.anyIn, mk, List.any_cons, List.any_nil]
  rw [Bool.eq_iff_iff]
  simp only [Bool.or_eq_true, decide_eq_true_eq, Bool.false_eq_true, or_false]
theorem wideIn (k : Nat) (r : Int) (hk : 20 < k) : (text_wide.f).bind (fun t => text_in.f k t r) = some (wd r) := by
  simp only [text_wide.f, Option.bind_some]
  rw [T1.in_ _ _ (by decide) (by decide) (by decide) k (by simp; omega)]
  congr 1
  simp only [T1.anyIn, wd, List.any_cons, List.any_nil]
  rw [Bool.eq_iff_iff]
  simp only [Bool.or_eq_true, decide_eq_true_eq, Bool.false_eq_true, or_false]
theorem tColumns (k : Nat) (r : Int) (hk : 22 < k) : text_columns.f k r = some (colw r : Int) := by
  obtain ⟨k, rfl⟩ : ∃ m, k = m + 1 := ⟨k - 1, by omega⟩
  have hm := marksIn (k + 1) r (by omega)
  have hw := wideIn k r (by omega)
  simp only [text_marks.f, Option.bind_some] at hm
  simp only [text_wide.f, Option.bind_some] at hw
  simp only [text_columns.f, text_columns.j0, T1.isHidden (k + 1) r (by omega), Option.bind_some, text_marks.f, text_wide.f, hm, hw]
  unfold colw
  cases h1 : T1.hid r <;> cases h2 : mk r <;> cases h3 : wd r <;> rfl
/-- The columns of the piece at i. -/
def pw (s : ByteArray) (i : Nat) : Nat := if U.usz s i = 0 then 1 else colw (U.uval s i (U.usz s i) : Int)
theorem colw_le (r : Int) : colw r ≤ 2 := by unfold colw; split <;> (try split) <;> omega
theorem pw_le (s : ByteArray) (i : Nat) : pw s i ≤ 2 := by
  have := colw_le (U.uval s i (U.usz s i) : Int)
  unfold pw; split <;> omega
theorem tWide1 (s : ByteArray) (i k : Nat) (hk : 22 < k) : text_wide1.f k (U.rn s i : Int) (i : Int) (U.stp s i : Int) (decide (U.usz s i = 0)) = some (pw s i : Int) := by
  unfold text_wide1.f pw
  by_cases hu : U.usz s i = 0
  · rw [if_pos (decide_eq_true hu), if_pos hu]; rfl
  · have e : U.rn s i = U.uval s i (U.usz s i) := by simp [U.rn, hu]
    rw [if_neg (show ¬ decide (U.usz s i = 0) = true by rw [decide_eq_false hu]; decide), if_neg hu, e, tColumns k _ hk]
    rfl
theorem rColumns (s : ByteArray) (i k : Nat) (hk : 22 < k) : shardref1_columns.f k (U.rn s i : Int) (i : Int) (U.stp s i : Int) (decide (U.usz s i = 0)) = some (pw s i : Int) := by
  obtain ⟨k, rfl⟩ : ∃ m, k = m + 1 := ⟨k - 1, by omega⟩
  unfold shardref1_columns.f pw
  by_cases hu : U.usz s i = 0
  · rw [if_pos (decide_eq_true hu), if_pos hu]; rfl
  · have e : U.rn s i = U.uval s i (U.usz s i) := by simp [U.rn, hu]
    rw [if_neg (show ¬ decide (U.usz s i = 0) = true by rw [decide_eq_false hu]; decide), if_neg hu, e, T1.Hidden (k + 1) _ (by omega)]
    simp only [Option.bind_some, shardref1_mark.f, shardref1_broad.f, shardref1_columns.j0]
    generalize (U.uval s i (U.usz s i) : Int) = r
    unfold colw
    rw [show (decide ((768 ≤ r ∧ r ≤ 879) ∨ _) : Bool) = mk r from rfl, show (decide ((4352 ≤ r ∧ r ≤ 4447) ∨ _) : Bool) = wd r from rfl]
    cases h1 : T1.hid r <;> cases h2 : mk r <;> cases h3 : wd r <;> rfl

/-- The columns of so many pieces. -/
def sumw (s : ByteArray) (l : List Nat) : Nat := (l.map (pw s)).sum
theorem sumw_le (s : ByteArray) (l : List Nat) : sumw s l ≤ 2 * l.length := by
  unfold sumw
  induction l with
  | nil => simp
  | cons i l ih => have := pw_le s i; simp only [List.map_cons, List.sum_cons, List.length_cons]; omega
/-- The columns of a string. -/
def width (s : ByteArray) : Nat := sumw s (U.cuts s s.size 0)
theorem width_le (s : ByteArray) : width s ≤ 2 * s.size := by
  have := sumw_le s (U.cuts s s.size 0)
  have := U.cuts_len s s.size 0
  unfold width; omega
theorem rd28 (s : ByteArray) (L : List Nat) (j : Nat) (h : j < L.length) : rd_T71 (L.map (text_Pieces.at_ s)) (j : Int) = ⟨(U.rn s L[j] : Int), (L[j] : Int), (U.stp s L[j] : Int), decide (U.usz s L[j] = 0)⟩ := by simp [rd_T71, h, text_Pieces.at_]
theorem rd72 (s : ByteArray) (L : List Nat) (j : Nat) (h : j < L.length) : rd_T67 (L.map (T0.mkR s)) (j : Int) = ⟨(U.rn s L[j] : Int), (L[j] : Int), (U.stp s L[j] : Int), decide (U.usz s L[j] = 0)⟩ := by simp [rd_T67, h, T0.mkR]
theorem tWidth_l (s : ByteArray) (L : List Nat) (hL : L.length < 1000000000000) : ∀ (d k j acc : Nat), j + d = L.length → d + 24 < k → acc ≤ 2 * j → text_Width.l0 k (acc : Int) (L.map (text_Pieces.at_ s)) (L.length : Int) (j : Int) = some ((acc + sumw s (L.drop j) : Nat) : Int)
  | 0, k, j, acc, hd, hk, ha => by
    obtain ⟨k, rfl⟩ : ∃ x, k = x + 1 := ⟨k - 1, by omega⟩
    simp only [text_Width.l0]
    rw [if_neg (by omega), List.drop_eq_nil_of_le (by omega)]
    simp [sumw]
  | d + 1, k, j, acc, hd, hk, ha => by
    obtain ⟨k, rfl⟩ : ∃ x, k = x + 1 := ⟨k - 1, by omega⟩
    have hjl : j < L.length := by omega
    have hp := pw_le s L[j]
    simp only [text_Width.l0, rd28 s L j hjl]
    rw [if_pos (by omega), if_pos (by omega), if_pos (by rw [List.length_map]; omega), tWide1 s _ k (by omega)]
    simp only [Option.bind_some]
    rw [wrap64_id (x := (acc : Int) + (pw s L[j] : Int)) (by omega) (by omega), wrap64_id (x := (j : Int) + 1) (by omega) (by omega)]
    have ih := tWidth_l s L hL d k (j + 1) (acc + pw s L[j]) (by omega) (by omega) (by omega)
    rw [show (acc : Int) + (pw s L[j] : Int) = ((acc + pw s L[j] : Nat) : Int) by omega, show (j : Int) + 1 = ((j + 1 : Nat) : Int) by omega, ih, List.drop_eq_getElem_cons hjl]
    simp only [sumw, List.map_cons, List.sum_cons]
    congr 2; omega
theorem tWidth (s : ByteArray) (hs : s.size < 100000000000) (k : Nat) (hk : s.size + 24 < k) : text_Width.f k s = some (width s : Int) := by
  have hl := U.cuts_len s s.size 0
  unfold text_Width.f
  rw [T0.tpieces s (by omega)]
  simp only [Option.bind_some]
  have := tWidth_l s (U.cuts s s.size 0) (by omega) _ k 0 0 (by rw [Nat.zero_add]) (by omega) (by omega)
  rw [List.length_map]
  simpa [width] using this
theorem rWidth_l (s : ByteArray) (L : List Nat) (hL : L.length < 1000000000000) : ∀ (d k j acc : Nat), j + d = L.length → d + 24 < k → acc ≤ 2 * j → shardref1_Width.l0 k (L.map (T0.mkR s)) (acc : Int) (j : Int) = some ((acc + sumw s (L.drop j) : Nat) : Int)
  | 0, k, j, acc, hd, hk, ha => by
    obtain ⟨k, rfl⟩ : ∃ x, k = x + 1 := ⟨k - 1, by omega⟩
    simp only [shardref1_Width.l0]
    rw [if_neg (by rw [List.length_map]; omega), List.drop_eq_nil_of_le (by omega)]
    simp [sumw]
  | d + 1, k, j, acc, hd, hk, ha => by
    obtain ⟨k, rfl⟩ : ∃ x, k = x + 1 := ⟨k - 1, by omega⟩
    have hjl : j < L.length := by omega
    have hp := pw_le s L[j]
    simp only [shardref1_Width.l0, rd72 s L j hjl]
    rw [if_pos (by rw [List.length_map]; omega), if_pos (by omega), rColumns s _ k (by omega)]
    simp only [Option.bind_some]
    rw [wrap64_id (x := (acc : Int) + (pw s L[j] : Int)) (by omega) (by omega), wrap64_id (x := (j : Int) + 1) (by omega) (by omega)]
    have ih := rWidth_l s L hL d k (j + 1) (acc + pw s L[j]) (by omega) (by omega) (by omega)
    rw [show (acc : Int) + (pw s L[j] : Int) = ((acc + pw s L[j] : Nat) : Int) by omega, show (j : Int) + 1 = ((j + 1 : Nat) : Int) by omega, ih, List.drop_eq_getElem_cons hjl]
    simp only [sumw, List.map_cons, List.sum_cons]
    congr 2; omega
theorem rWidth (s : ByteArray) (hs : s.size < 100000000000) (k : Nat) (hk : s.size + 24 < k) : shardref1_Width.f k s = some (width s : Int) := by
  have hl := U.cuts_len s s.size 0
  unfold shardref1_Width.f
  rw [T0.pieces s (by omega) k (by omega)]
  simp only [Option.bind_some]
  have := rWidth_l s (U.cuts s s.size 0) (by omega) _ k 0 0 (by rw [Nat.zero_add]) (by omega) (by omega)
  simpa [width] using this
/-- Where a string is cut to so many columns: the pieces from i on. -/
def clipAt (s : ByteArray) : List Nat → Int → Nat
  | [], _ => s.size
  | i :: l, left => if (pw s i : Int) > left then i else clipAt s l (left - pw s i)
end T4
end Go.Proofs.Ytghhpgpcbnkamaa.Pure
