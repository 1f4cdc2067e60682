/- Plain facts shared by the statements of chapter 1: the width of a part of a string, of a string with blanks ahead and behind; what clipping leaves. No program in sight. -/
import Derived.Test.YtplhcnlpfoiieaaPureText5
set_option linter.unusedVariables false
set_option linter.unusedSimpArgs false
namespace Go.Proofs.Ytplhcnlpfoiieaa.Pure
open Go.RowKit Go.Proofs.Ytplhcnlpfoiieaa.P Go.Proofs.YtplhcnlpfoiieaaW.PrintWords Go.Proofs.YtplhcnlpfoiieaaW.PrintLast Go.Proofs.Ytplhcnlpfoiieaa.PL

namespace T6
open T4 (pw sumw width clipAt colw)
open T5 (sp)
/-- The columns from i on. -/
def W (s : ByteArray) (i : Nat) : Nat := sumw s (U.cuts s s.size i)
theorem W_zero (s : ByteArray) : W s 0 = width s := rfl
theorem W_end (s : ByteArray) (i : Nat) (h : s.size ≤ i) : W s i = 0 := by
  unfold W
  rw [U.cuts_end s _ i (by omega)]
  rfl
theorem W_next (s : ByteArray) (i : Nat) (h : i < s.size) : W s i = pw s i + W s (i + U.stp s i) := by
  have := U.stp_pos s i
  unfold W
  obtain ⟨k, hk⟩ : ∃ k, s.size = k + 1 := ⟨s.size - 1, by omega⟩
  rw [U.cuts_fuel s s.size (k + 1) i (by omega) (by omega), U.cuts, if_pos h, U.cuts_fuel s k s.size (i + U.stp s i) (by omega) (by omega)]
  simp only [sumw, List.map_cons, List.sum_cons]
theorem B_end (s : ByteArray) (j : Nat) (h : s.size ≤ j) : U.B s j = 0 := by
  rw [U.B_list, List.getD_eq_getElem?_getD, List.getElem?_eq_none (by rw [size_list]; omega)]
  rfl
theorem pw_of {s t : ByteArray} {i j : Nat} (h : U.usz s i = U.usz t j) (hv : U.usz t j ≠ 0 → U.uval s i (U.usz t j) = U.uval t j (U.usz t j)) : pw s i = pw t j ∧ U.stp s i = U.stp t j := by
  unfold pw U.stp
  rw [h]
  by_cases c : U.usz t j = 0
  · rw [if_pos c, if_pos c, if_pos c]; exact ⟨rfl, rfl⟩
  · rw [if_neg c, if_neg c, if_neg c, hv c]; exact ⟨rfl, rfl⟩
theorem uval_of {s t : ByteArray} {i : Nat} (hi : i < t.size) (h : ∀ j, j < t.size → U.B s j = U.B t j) (hu : U.usz t i ≠ 0) : U.uval s i (U.usz t i) = U.uval t i (U.usz t i) := by
  have h0 := h i hi
  have hc := U.usz_cases t i hi
  rcases hc with ⟨e, hc⟩ | ⟨e, hc⟩ | ⟨e, hc⟩ | ⟨e, hc⟩ | ⟨e, hc⟩
  · rw [e]; simp only [U.uval, if_true]; rw [h0]
  · rw [e]; simp [U.uval, h0, h (i + 1) (by omega)]
  · rw [e]; simp [U.uval, h0, h (i + 1) (by omega), h (i + 2) (by omega)]
  · rw [e]; simp [U.uval, h0, h (i + 1) (by omega), h (i + 2) (by omega), h (i + 3) (by omega)]
  · exact absurd e hu
/-- A piece that lies in the first part is a piece of the first part. -/
theorem usz_pre {s t : ByteArray} {i : Nat} (hi : i < t.size) (hts : t.size ≤ s.size) (h : ∀ j, j < t.size → U.B s j = U.B t j) (hb : i + U.usz s i ≤ t.size) : U.usz s i = U.usz t i := by
  have h0 := h i hi
  have h1 := h (i + 1)
  have h2 := h (i + 2)
  have h3 := h (i + 3)
  have hs := U.usz_cases s i (by omega)
  have ht := U.usz_cases t i hi
  rcases hs with ⟨e, hs⟩ | ⟨e, hs⟩ | ⟨e, hs⟩ | ⟨e, hs⟩ | ⟨e, hs⟩
  all_goals (rcases ht with ⟨e', ht⟩ | ⟨e', ht⟩ | ⟨e', ht⟩ | ⟨e', ht⟩ | ⟨e', ht⟩ <;> omega)
/-- What stands behind and is no byte that goes on leaves the pieces as they are. -/
theorem usz_on {s t : ByteArray} {i : Nat} (hi : i < t.size) (hts : t.size ≤ s.size) (h : ∀ j, j < t.size → U.B s j = U.B t j) (hb : ∀ j, t.size ≤ j → U.B s j < 128) : U.usz s i = U.usz t i := by
  refine usz_pre hi hts h ?_
  have g1 := hb (i + 1)
  have g2 := hb (i + 2)
  have g3 := hb (i + 3)
  rcases U.usz_cases s i (by omega) with ⟨e, hs⟩ | ⟨e, hs⟩ | ⟨e, hs⟩ | ⟨e, hs⟩ | ⟨e, hs⟩
  · omega
  · have : ¬ t.size ≤ i + 1 := fun c => by have := g1 c; omega
    omega
  · have : ¬ t.size ≤ i + 2 := fun c => by have := g2 c; omega
    omega
  · have : ¬ t.size ≤ i + 3 := fun c => by have := g3 c; omega
    omega
  · omega
theorem W_on {s t : ByteArray} (hts : t.size ≤ s.size) (h : ∀ j, j < t.size → U.B s j = U.B t j) (hb : ∀ j, t.size ≤ j → U.B s j < 128) : ∀ (d i : Nat), i + d = t.size → W s i = W t i + W s t.size := by
  intro d
  induction d using Nat.strongRecOn with
  | _ d ih =>
    intro i hd
    by_cases hi : i < t.size
    · obtain ⟨e1, e2⟩ := pw_of (usz_on hi hts h hb) (fun hu => uval_of hi h hu)
      have hst := U.stp_le t i hi
      have hp := U.stp_pos t i
      rw [W_next s i (by omega), W_next t i hi, e1, e2, ih (t.size - (i + U.stp t i)) (by omega) (i + U.stp t i) (by omega)]
      omega
    · rw [W_end t i (by omega), show i = t.size by omega]; omega
/-- The pieces from i on come to n. -/
inductive Reach (s : ByteArray) : Nat → Nat → Prop
  | refl (i : Nat) : Reach s i i
  | step {i n : Nat} : i < s.size → Reach s (i + U.stp s i) n → Reach s i n
theorem Reach.le {s : ByteArray} {i n : Nat} (h : Reach s i n) : i ≤ n := by
  induction h with
  | refl => omega
  | step _ _ ih => omega
theorem usz_le_stp (s : ByteArray) (i : Nat) : U.usz s i ≤ U.stp s i := by unfold U.stp; split <;> omega
theorem W_pre {s t : ByteArray} (hts : t.size ≤ s.size) (h : ∀ j, j < t.size → U.B s j = U.B t j) {i n : Nat} (hr : Reach s i n) (hn : n = t.size) : W s i = W t i + W s n := by
  induction hr with
  | refl i => rw [W_end t i (by omega)]; omega
  | step hi hr ih =>
    rename_i i n
    have hle := hr.le
    have hp := U.stp_pos s i
    have hu := usz_le_stp s i
    have hit : i < t.size := by omega
    have e := usz_pre hit hts h (by omega)
    obtain ⟨e1, e2⟩ := pw_of e (fun hu => uval_of hit h hu)
    rw [W_next s i hi, W_next t i hit, ih hn, ← e1, ← e2]
    omega
/-- What clipping comes to. -/
theorem clipAt_spec (s : ByteArray) : ∀ (d i : Nat) (left : Int), s.size ≤ i + d → i ≤ s.size → 0 ≤ left → ∃ m : Nat, Reach s i (clipAt s (U.cuts s d i) left) ∧ clipAt s (U.cuts s d i) left ≤ s.size ∧ W s i = m + W s (clipAt s (U.cuts s d i) left) ∧ (m : Int) ≤ left ∧ (clipAt s (U.cuts s d i) left < s.size → (m : Int) + (pw s (clipAt s (U.cuts s d i) left) : Int) > left)
  | 0, i, left, hd, hi, hl => by
    rw [U.cuts, clipAt]
    refine ⟨0, ?_, by omega, ?_, by omega, by omega⟩
    · rw [show i = s.size by omega]; exact .refl _
    · rw [show i = s.size by omega]; omega
  | d + 1, i, left, hd, hi, hl => by
    by_cases hlt : i < s.size
    · have hp := U.stp_pos s i
      have hs := U.stp_le s i hlt
      rw [U.cuts, if_pos hlt, clipAt]
      by_cases hg : (pw s i : Int) > left
      · rw [if_pos hg]
        exact ⟨0, .refl _, by omega, by omega, by omega, by omega⟩
      · rw [if_neg hg]
        obtain ⟨m, h1, h2, h3, h4, h5⟩ := clipAt_spec s d (i + U.stp s i) (left - pw s i) (by omega) (by omega) (by omega)
        refine ⟨pw s i + m, .step hlt h1, h2, ?_, by omega, fun h => by have := h5 h; omega⟩
        rw [W_next s i hlt, h3]; omega
    · rw [U.cuts_end s _ i hlt, clipAt]
      refine ⟨0, ?_, by omega, ?_, by omega, by omega⟩
      · rw [show i = s.size by omega]; exact .refl _
      · rw [show i = s.size by omega]; omega
/-! ### parts of a string, byte by byte -/
theorem ext_size (s : ByteArray) (a b : Nat) (hb : b ≤ s.size) : (s.extract a b).size = b - a := by
  rw [ByteArray.size_extract]; omega
theorem B_ext (s : ByteArray) (a b j : Nat) (hb : b ≤ s.size) (h : j < b - a) : U.B (s.extract a b) j = U.B s (a + j) := by
  rw [U.B_list, U.B_list, ← toList_data, extract_list, List.getD_eq_getElem?_getD, List.getD_eq_getElem?_getD, List.getElem?_take, if_pos h, List.getElem?_drop]
theorem B_app_l (a b : ByteArray) (j : Nat) (h : j < a.size) : U.B (a ++ b) j = U.B a j := by
  rw [U.B_list, U.B_list, ByteArray.data_append, Array.toList_append, List.getD_eq_getElem?_getD, List.getD_eq_getElem?_getD, List.getElem?_append_left (by rw [size_list]; exact h)]
theorem B_app_r (a b : ByteArray) (j : Nat) (h : a.size ≤ j) : U.B (a ++ b) j = U.B b (j - a.size) := by
  rw [U.B_list, U.B_list, ByteArray.data_append, Array.toList_append, List.getD_eq_getElem?_getD, List.getD_eq_getElem?_getD, List.getElem?_append_right (by rw [size_list]; exact h), size_list]
theorem B_sp (n j : Nat) : U.B (sp n) j = if j < n then 32 else 0 := by
  rw [U.B_list, T5.sp_list, List.getD_eq_getElem?_getD]
  by_cases h : j < n
  · rw [if_pos h, List.getElem?_replicate, if_pos h]; rfl
  · rw [if_neg h, List.getElem?_eq_none (by rw [List.length_replicate]; omega)]; rfl
theorem W_shift {s b : ByteArray} {m : Nat} (hd : s.data.toList.drop m = b.data.toList) (hm : m ≤ s.size) (q : Nat) : W s (m + q) = W b q := by
  have hs : s.size - m = b.size := by rw [← T2.size_drop, hd, size_list]
  unfold W
  rw [T2.cuts_shift hd hm, U.cuts_fuel b s.size b.size q (by omega) (by omega)]
  unfold sumw
  rw [List.map_map]
  congr 1
  apply List.map_congr_left
  intro x _
  exact (pw_of (T2.usz_shift hd hm x) (fun _ => T2.uval_shift hd x _)).1
theorem app_drop (a b : ByteArray) : (a ++ b).data.toList.drop a.size = b.data.toList := by
  rw [ByteArray.data_append, Array.toList_append, ← size_list a, List.drop_left]
theorem pw_blank (s : ByteArray) (i : Nat) (h : U.B s i = 32) : pw s i = 1 ∧ U.stp s i = 1 := by
  have hu : U.usz s i = 1 := by unfold U.usz; rw [if_pos (by omega)]
  have hv : U.uval s i 1 = 32 := by simp only [U.uval, if_true]; exact h
  unfold pw U.stp
  rw [hu, if_neg (by decide), if_neg (by decide), hv]
  exact ⟨by decide, rfl⟩
theorem W_blanks (b : ByteArray) (n : Nat) : ∀ (d i : Nat), i + d = n → W (sp n ++ b) i = d + W b 0
  | 0, i, h => by
    have := W_shift (app_drop (sp n) b) (by rw [ByteArray.size_append]; omega) 0
    rw [T5.sp_size, Nat.add_zero] at this
    rw [show i = n by omega, this]; omega
  | d + 1, i, h => by
    have hb : U.B (sp n ++ b) i = 32 := by
      rw [B_app_l _ _ _ (by rw [T5.sp_size]; omega), B_sp, if_pos (by omega)]
    obtain ⟨h1, h2⟩ := pw_blank _ _ hb
    rw [W_next _ _ (by rw [ByteArray.size_append, T5.sp_size]; omega), h1, h2, W_blanks b n d (i + 1) (by omega)]
    omega
theorem W_sp (n : Nat) : W (sp n) 0 = n := by
  have := W_blanks ⟨#[]⟩ n n 0 (by omega)
  rw [show sp n ++ (⟨#[]⟩ : ByteArray) = sp n by apply ByteArray.ext; rw [ByteArray.data_append]; simp, W_end ⟨#[]⟩ 0 (by decide)] at this
  exact this
/-- THE WIDTH OF WHAT IS PADDED. -/
theorem width_pad (a b : Nat) (c : ByteArray) : width (sp a ++ c ++ sp b) = a + width c + b := by
  have h1 : width (sp a ++ (c ++ sp b)) = a + width (c ++ sp b) := by rw [← W_zero, ← W_zero, W_blanks _ a a 0 (by omega)]
  have h2 : W (c ++ sp b) 0 = W c 0 + W (c ++ sp b) c.size := by
    refine W_on (by rw [ByteArray.size_append]; omega) (fun j hj => B_app_l _ _ _ hj) (fun j hj => ?_) c.size 0 (by omega)
    rw [B_app_r _ _ _ hj, B_sp]; split <;> omega
  have h3 := W_shift (app_drop c (sp b)) (by rw [ByteArray.size_append]; omega) 0
  rw [Nat.add_zero, W_sp] at h3
  rw [ByteArray.append_assoc, h1, ← W_zero, h2, h3, W_zero]; omega
/-- WHAT CLIPPING LEAVES: a first part that fits, and with one piece more would not. -/
theorem clip_spec (s : ByteArray) (c : Int) (hc : 0 ≤ c) : ∃ n, T5.clip s c = s.extract 0 n ∧ n ≤ s.size ∧ (width (s.extract 0 n) : Int) ≤ c ∧ (n < s.size → (width (s.extract 0 n) : Int) + (pw s n : Int) > c) := by
  obtain ⟨m, h1, h2, h3, h4, h5⟩ := clipAt_spec s s.size 0 c (by omega) (by omega) hc
  refine ⟨clipAt s (U.cuts s s.size 0) c, by rw [T5.clip, if_neg (by omega)], h2, ?_⟩
  generalize clipAt s (U.cuts s s.size 0) c = n at *
  have hw := W_pre (s := s) (t := s.extract 0 n) (by rw [ext_size _ _ _ h2]; omega) (fun j hj => by
    rw [ext_size _ _ _ h2] at hj
    rw [B_ext _ _ _ _ h2 hj, Nat.zero_add]) h1 (by rw [ext_size _ _ _ h2]; omega)
  rw [W_zero (s.extract 0 n)] at hw
  have : width (s.extract 0 n) = m := by omega
  rw [this]
  exact ⟨h4, h5⟩
/-- The piece at n, alone. -/
theorem width_piece (s : ByteArray) (n : Nat) (h : n < s.size) : width (s.extract n (n + U.stp s n)) = pw s n := by
  have hs := U.stp_le s n h
  have hp := U.stp_pos s n
  have hu := usz_le_stp s n
  generalize hx : s.extract n (n + U.stp s n) = x
  generalize hd : s.extract n s.size = d
  have hxs : x.size = U.stp s n := by rw [← hx, ext_size _ _ _ (by omega)]; omega
  have hds : d.size = s.size - n := by rw [← hd, ext_size _ _ _ (by omega)]
  have hdd : s.data.toList.drop n = d.data.toList := by
    rw [← hd, ← toList_data (s.extract n s.size), extract_list, List.take_of_length_le (by rw [List.length_drop, size_list]; omega)]
  have sh := T2.usz_shift hdd (by omega) 0
  have shv := fun m => T2.uval_shift (n := m) hdd 0
  rw [Nat.add_zero] at sh shv
  have hb : ∀ j, j < x.size → U.B d j = U.B x j := by
    intro j hj
    rw [hxs] at hj
    rw [← hd, ← hx, B_ext _ _ _ _ (by omega) (by omega), B_ext _ _ _ _ (by omega) (by omega)]
  have e := usz_pre (s := d) (t := x) (i := 0) (by omega) (by omega) hb (by rw [← sh]; omega)
  have key := pw_of (s := s) (t := x) (i := n) (j := 0) (by rw [sh, e]) (fun hu => by rw [shv]; exact uval_of (by omega) hb hu)
  rw [← W_zero, W_next x 0 (by omega), ← key.1, ← key.2, W_end x _ (by omega)]; omega
end T6
end Go.Proofs.Ytplhcnlpfoiieaa.Pure
