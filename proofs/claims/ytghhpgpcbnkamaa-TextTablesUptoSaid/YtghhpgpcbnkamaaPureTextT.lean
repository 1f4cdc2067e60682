/- Plain facts of tables: the program's lines, first row at fault and fault are the document's. No program in sight. -/
import Derived.Test.YtghhpgpcbnkamaaPureText4
import Derived.Test.YtghhpgpcbnkamaaPx17
import Derived.Test.YtghhpgpcbnkamaaPx10
set_option linter.unusedVariables false
set_option linter.unusedSimpArgs false
namespace Go.Proofs.Ytghhpgpcbnkamaa.Pure
open Go.RowKit Go.Proofs.Ytghhpgpcbnkamaa.P Go.Proofs.YtghhpgpcbnkamaaW.PrintWords Go.Proofs.YtghhpgpcbnkamaaW.PrintLast Go.Proofs.YtghhpgpcbnkamaaW.PrintMore Go.Proofs.Ytghhpgpcbnkamaa.PL

namespace TT
open T4 (pw sumw width colw)
/-! ### blanks -/
def sp (n : Nat) : ByteArray := ⟨(List.replicate n 32).toArray⟩
theorem sp_list (n : Nat) : (sp n).data.toList = List.replicate n 32 := rfl
theorem sp_size (n : Nat) : (sp n).size = n := by rw [← size_list, sp_list, List.length_replicate]
theorem repeatSp (n : Nat) (hn : n ≤ 1000000) : strings_Repeat.f (⟨#[32]⟩ : ByteArray) (n : Int) = some (sp n) := by
  unfold strings_Repeat.f
  have h1 : (⟨#[32]⟩ : ByteArray).size = 1 := rfl
  rw [if_pos ⟨by omega, by omega, by rw [h1]; omega⟩]
  congr 1
  unfold sp
  have := Lib.repeatL_replicate 32 1 n
  rw [Nat.mul_one, show List.replicate 1 (32 : UInt8) = [32] from rfl] at this
  rw [← this]
  rfl
theorem str_sp (n : Nat) : strOfNums (List.replicate n (32 : Int)) = sp n := by
  unfold strOfNums sp
  rw [List.map_replicate]
  rfl
theorem spaces_l (n : Nat) (hn : n ≤ 1000000) : ∀ (d k j : Nat), j + d = n → d < k → shardref1_spaces.l0 k (n : Int) (List.replicate j (32 : Int)) (j : Int) = some (sp n)
  | 0, k, j, hj, hk => by
    obtain ⟨k, rfl⟩ : ∃ x, k = x + 1 := ⟨k - 1, by omega⟩
    simp only [shardref1_spaces.l0]
    rw [if_neg (by omega), show j = n by omega, str_sp]
  | d + 1, k, j, hj, hk => by
    obtain ⟨k, rfl⟩ : ∃ x, k = x + 1 := ⟨k - 1, by omega⟩
    simp only [shardref1_spaces.l0]
    rw [if_pos (by omega), if_pos (by rw [List.length_replicate]; omega), wrap64_id (by omega) (by omega)]
    have := spaces_l n hn d k (j + 1) (by omega) (by omega)
    rw [List.replicate_succ'] at this
    rw [show (j : Int) + 1 = ((j + 1 : Nat) : Int) by omega]
    exact this
theorem spaces (n : Nat) (hn : n ≤ 1000000) (k : Nat) (hk : n < k) : shardref1_spaces.f k (n : Int) = some (sp n) := spaces_l n hn n k 0 (by omega) hk
theorem sp_zero_r (s : ByteArray) : s ++ sp 0 = s := by
  apply ByteArray.ext; rw [ByteArray.data_append]; show s.data ++ #[] = s.data; simp
theorem ba_assoc (a b c : ByteArray) : a ++ b ++ c = a ++ (b ++ c) := by
  apply ByteArray.ext; simp only [ByteArray.data_append, Array.append_assoc]
theorem sp_two (n : Nat) : sp n ++ (⟨#[32, 32]⟩ : ByteArray) = sp (n + 2) := by
  apply ByteArray.ext
  rw [ByteArray.data_append]
  apply Array.toList_inj.mp
  rw [Array.toList_append, sp_list, sp_list]
  exact List.replicate_append_replicate (n := n) (m := 2) (a := 32)
theorem size_app (a b : ByteArray) : (a ++ b).size = a.size + b.size := ByteArray.size_append

/-! ### the fault of a cell -/
def res (s : ByteArray) : List Nat → Bool → Int
  | [], h => if h = true then 14 else if (width s : Int) > 400 then 10 else 0
  | i :: l, h => if U.usz s i = 0 then 13 else res s l (h || T1.hid (U.rn s i))
def cf (s : ByteArray) : Int := res s (U.cuts s s.size 0) false
theorem res_ok (s : ByteArray) : ∀ (l : List Nat) (h : Bool), res s l h = 0 → width s ≤ 400
  | [], h, e => by
    unfold res at e
    split at e
    · cases e
    · split at e
      · cases e
      · omega
  | i :: l, h, e => by
    unfold res at e
    split at e
    · cases e
    · exact res_ok s l _ e
theorem cf_ok (s : ByteArray) (h : cf s = 0) : width s ≤ 400 := res_ok s _ _ h
theorem tfault_l (s : ByteArray) (L : List Nat) (hL : L.length < 1000000000000) : ∀ (d k j acc : Nat) (h : Bool), j + d = L.length → d + 24 < k → acc ≤ 2 * j → acc + sumw s (L.drop j) = width s →
    text_fault.l0 k (acc : Int) h (L.map (text_Pieces.at_ s)) (L.length : Int) (j : Int) = some (res s (L.drop j) h)
  | 0, k, j, acc, h, hd, hk, ha, hw => by
    obtain ⟨k, rfl⟩ : ∃ x, k = x + 1 := ⟨k - 1, by omega⟩
    rw [List.drop_eq_nil_of_le (by omega)] at hw ⊢
    simp only [sumw, List.map_nil, List.sum_nil, Nat.add_zero] at hw
    simp only [text_fault.l0, res]
    rw [if_neg (by omega), hw]
    split
    · rfl
    · split <;> rfl
  | d + 1, k, j, acc, h, hd, hk, ha, hw => by
    obtain ⟨k, rfl⟩ : ∃ x, k = x + 1 := ⟨k - 1, by omega⟩
    have hjl : j < L.length := by omega
    have hp := T4.pw_le s L[j]
    have hdr := List.drop_eq_getElem_cons hjl
    simp only [text_fault.l0, T4.rd28 s L j hjl]
    rw [if_pos (by omega), if_pos (by omega), if_pos (by rw [List.length_map]; omega), hdr]
    simp only [res]
    by_cases hu : U.usz s L[j] = 0
    · rw [if_pos (decide_eq_true hu), if_pos hu]
    · rw [if_neg (by rw [decide_eq_false hu]; decide), if_neg hu]
      have e : U.rn s L[j] = U.uval s L[j] (U.usz s L[j]) := by simp [U.rn, hu]
      have ep : pw s L[j] = colw (U.rn s L[j] : Int) := by unfold pw; rw [if_neg hu, e]
      rw [hdr] at hw
      simp only [sumw, List.map_cons, List.sum_cons] at hw
      have hw' : acc + pw s L[j] + sumw s (L.drop (j + 1)) = width s := by unfold sumw; omega
      have ih := fun b => tfault_l s L hL d k (j + 1) (acc + pw s L[j]) b (by omega) (by omega) (by omega) hw'
      rw [T4.tColumns k _ (by omega), T1.isHidden k _ (by omega), ← ep]
      simp only [Option.bind_some]
      rw [wrap64_id (x := (acc : Int) + (pw s L[j] : Int)) (by omega) (by omega), wrap64_id (x := (j : Int) + 1) (by omega) (by omega)]
      rw [show (acc : Int) + (pw s L[j] : Int) = ((acc + pw s L[j] : Nat) : Int) by omega, show (j : Int) + 1 = ((j + 1 : Nat) : Int) by omega, ih, ih]
      cases h <;> simp
theorem tfault (s : ByteArray) (hs : s.size < 100000000000) (k : Nat) (hk : s.size + 24 < k) : text_fault.f k s = some (cf s) := by
  have hl := U.cuts_len s s.size 0
  unfold text_fault.f
  rw [T0.tpieces s (by omega)]
  simp only [Option.bind_some]
  have := tfault_l s (U.cuts s s.size 0) (by omega) _ k 0 0 false (by rw [Nat.zero_add]) (by omega) (by omega) (by simp [width])
  rw [List.length_map]
  simpa [cf] using this
theorem rfault_l (s : ByteArray) (hs : s.size < 100000000000) (L : List Nat) (hL : L.length < 1000000000000) : ∀ (d k j : Nat) (h : Bool), j + d = L.length → s.size + d + 26 < k →
    shardref1_cellFault.l0 k s (L.map (T0.mkR s)) h (j : Int) = some (res s (L.drop j) h)
  | 0, k, j, h, hd, hk => by
    obtain ⟨k, rfl⟩ : ∃ x, k = x + 1 := ⟨k - 1, by omega⟩
    rw [List.drop_eq_nil_of_le (by omega)]
    simp only [shardref1_cellFault.l0, res]
    rw [if_neg (by rw [List.length_map]; omega), T4.rWidth s (by omega) k (by omega)]
    simp only [Option.bind_some]
    split
    · rfl
    · split <;> rfl
  | d + 1, k, j, h, hd, hk => by
    obtain ⟨k, rfl⟩ : ∃ x, k = x + 1 := ⟨k - 1, by omega⟩
    have hjl : j < L.length := by omega
    simp only [shardref1_cellFault.l0, T4.rd72 s L j hjl]
    rw [if_pos (by rw [List.length_map]; omega), if_pos (by omega), List.drop_eq_getElem_cons hjl]
    simp only [res]
    by_cases hu : U.usz s L[j] = 0
    · rw [if_pos (decide_eq_true hu), if_pos hu]
    · rw [if_neg (by rw [decide_eq_false hu]; decide), if_neg hu]
      have ih := fun b => rfault_l s hs L hL d k (j + 1) b (by omega) (by omega)
      rw [T1.Hidden k _ (by omega)]
      simp only [Option.bind_some]
      rw [wrap64_id (x := (j : Int) + 1) (by omega) (by omega), show (j : Int) + 1 = ((j + 1 : Nat) : Int) by omega, ih, ih]
      cases h <;> simp
theorem rfault (s : ByteArray) (hs : s.size < 100000000000) (k : Nat) (hk : 2 * s.size + 26 < k) : shardref1_cellFault.f k s = some (cf s) := by
  have hl := U.cuts_len s s.size 0
  unfold shardref1_cellFault.f
  rw [T0.pieces s (by omega) k (by omega)]
  simp only [Option.bind_some]
  exact rfault_l s hs (U.cuts s s.size 0) (by omega) _ k 0 false (by rw [Nat.zero_add]) (by omega)
end TT
end Go.Proofs.Ytghhpgpcbnkamaa.Pure
