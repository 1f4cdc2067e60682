/- Plain facts shared by the statements of chapter 1: the quoted text that begins at a place as the program reads it. No program in sight. -/
import Derived.Test.YtplhcnlpfoiieaaDoorPureTextU
set_option linter.unusedVariables false
set_option linter.unusedSimpArgs false
namespace Go.Proofs.YtplhcnlpfoiieaaDoor.Pure
open Go.RowKit Go.Proofs.YtplhcnlpfoiieaaDoor.P Go.Proofs.YtplhcnlpfoiieaaDoorW.PrintWords Go.Proofs.YtplhcnlpfoiieaaDoorW.PrintLast Go.Proofs.YtplhcnlpfoiieaaDoor.PL

namespace TV
open T1 (good enc hid)
open TU
/-- The byte at p, -1: there is none. -/
def D (s : ByteArray) (p : Nat) : Int := if p < s.size then (U.B s p : Int) else -1
theorem D_in (s : ByteArray) (p : Nat) (h : p < s.size) : D s p = (U.B s p : Int) := by rw [D, if_pos h]
theorem D_out (s : ByteArray) (p : Nat) (h : ¬ p < s.size) : D s p = -1 := by rw [D, if_neg h]
theorem D_range (s : ByteArray) (p : Nat) : -1 ≤ D s p ∧ D s p < 256 := by
  have := U.B_lt s p
  unfold D
  split <;> omega
theorem D_lt {s : ByteArray} {p : Nat} (h : 0 ≤ D s p) : p < s.size := by
  by_cases c : p < s.size
  · exact c
  · rw [D_out s p c] at h; omega
/-- The pieces from number k on begin at p. -/
def Reach (s : ByteArray) (L : List Nat) (k p : Nat) : Prop := p ≤ s.size ∧ ∃ n, s.size ≤ p + n ∧ L.drop k = U.cuts s n p
theorem reach0 (s : ByteArray) : Reach s (U.cuts s s.size 0) 0 0 := ⟨by omega, s.size, by omega, by simp⟩
theorem Reach.next {s : ByteArray} {L : List Nat} {k p : Nat} (h : Reach s L k p) (hp : p < s.size) : Reach s L (k + 1) (p + U.stp s p) ∧ k < L.length ∧ L[k]? = some p := by
  obtain ⟨h1, n, h2, h3⟩ := h
  obtain ⟨n, rfl⟩ : ∃ m, n = m + 1 := ⟨n - 1, by omega⟩
  have hst := U.stp_le s p hp
  have hpos := U.stp_pos s p
  rw [U.cuts, if_pos hp] at h3
  have hk : k < L.length := by
    rcases Nat.lt_or_ge k L.length with h | h
    · exact h
    · rw [List.drop_eq_nil_of_le h] at h3; cases h3
  rw [List.drop_eq_getElem_cons hk] at h3
  simp only [List.cons.injEq] at h3
  exact ⟨⟨by omega, n, by omega, h3.2⟩, hk, by rw [List.getElem?_eq_getElem hk, h3.1]⟩
theorem Reach.end_ {s : ByteArray} {L : List Nat} {k p : Nat} (h : Reach s L k p) (hp : ¬ p < s.size) : L.length ≤ k := by
  obtain ⟨h1, n, h2, h3⟩ := h
  rw [U.cuts_end _ _ _ hp] at h3
  exact List.drop_eq_nil_iff.1 h3
def atv (s : ByteArray) (p : Nat) : Int := if p < s.size then (if U.usz s p = 0 then -1 else (U.uval s p (U.usz s p) : Int)) else -1
theorem asc (s : ByteArray) (p : Nat) : (atv s p = D s p ∧ (D s p = -1 ∨ (0 ≤ D s p ∧ D s p < 128 ∧ U.usz s p = 1))) ∨ (128 ≤ D s p ∧ (atv s p = -1 ∨ 128 ≤ atv s p)) := by
  unfold atv
  by_cases c : p < s.size
  · rw [if_pos c, D_in s p c]
    rcases U.usz_cases s p c with ⟨h, hc⟩ | ⟨h, hc⟩ | ⟨h, hc⟩ | ⟨h, hc⟩ | ⟨h, hc⟩
    · refine Or.inl ⟨?_, Or.inr ⟨by omega, by omega, h⟩⟩
      rw [h, if_neg (by decide)]
      simp [U.uval]
    · right
      have := U.uval_range s p c (by omega)
      rw [h] at this ⊢
      rw [if_neg (by decide)]
      omega
    · right
      have := U.uval_range s p c (by omega)
      rw [h] at this ⊢
      rw [if_neg (by decide)]
      omega
    · right
      have := U.uval_range s p c (by omega)
      rw [h] at this ⊢
      rw [if_neg (by decide)]
      omega
    · right
      rw [if_pos h]
      omega
  · rw [if_neg c, D_out s p c]
    left; exact ⟨rfl, .inl rfl⟩
theorem atv_eq (s : ByteArray) (p : Nat) (c : Int) (h0 : 0 ≤ c) (h1 : c < 128) : atv s p = c ↔ D s p = c := by
  have := asc s p
  omega
theorem atv_range (s : ByteArray) (p : Nat) : -1 ≤ atv s p ∧ atv s p ≤ 1114111 := by
  unfold atv
  by_cases c : p < s.size
  · rw [if_pos c]
    by_cases hu : U.usz s p = 0
    · rw [if_pos hu]; omega
    · rw [if_neg hu]
      have := U.uval_range s p c hu
      omega
  · rw [if_neg c]; omega
theorem hexv_asc {x : Int} (h : 0 ≤ hexv x) : 0 ≤ x ∧ x < 128 := by
  unfold hexv at h
  split at h
  · omega
  · split at h
    · omega
    · split at h <;> omega
theorem Reach.asc {s : ByteArray} {L : List Nat} {k p : Nat} (h : Reach s L k p) (h0 : 0 ≤ D s p) (h1 : D s p < 128) : Reach s L (k + 1) (p + 1) := by
  have := (h.next (D_lt h0)).1
  rcases TV.asc s p with ⟨_, h2⟩ | ⟨h2, _⟩
  · rw [U.stp, if_neg (by omega), show U.usz s p = 1 by omega] at this
    exact this
  · omega
/-! ### escapes -/
theorem pos16 : ∀ f : Nat, 1 ≤ 16 ^ f
  | 0 => by decide
  | f + 1 => by have := pos16 f; rw [Nat.pow_succ]; omega
def hrun (s : ByteArray) : Nat → Nat → Nat → Nat × Nat
  | 0, p, n => (p, n)
  | f + 1, p, n => if 0 ≤ hexv (D s p) then hrun s f (p + 1) (n * 16 + (hexv (D s p)).toNat) else (p, n)
def fin (s : ByteArray) (p : Nat) (r : Nat × Nat) : ByteArray × Nat := if r.1 = p + 3 ∨ D s r.1 ≠ 125 then (⟨#[]⟩, 0) else if good r.2 then (enc r.2, r.1 + 1 - p) else (⟨#[]⟩, 0)
def long (s : ByteArray) (p : Nat) : ByteArray × Nat := if D s (p + 2) = 123 then fin s p (hrun s 6 (p + 3) 0) else (⟨#[]⟩, 0)
def esc (s : ByteArray) (p : Nat) : ByteArray × Nat :=
  if D s (p + 1) = 34 ∨ D s (p + 1) = 92 then (strOfNums [D s (p + 1)], 2)
  else if D s (p + 1) = 110 then (⟨#[10]⟩, 2)
  else if D s (p + 1) = 114 then (⟨#[13]⟩, 2)
  else if D s (p + 1) = 116 then (⟨#[9]⟩, 2)
  else if D s (p + 1) = 120 then (if hexv (D s (p + 2)) < 0 ∨ hexv (D s (p + 3)) < 0 then (⟨#[]⟩, 0) else (strOfNums [hexv (D s (p + 2)) * 16 + hexv (D s (p + 3))], 4))
  else if D s (p + 1) = 117 then long s p
  else (⟨#[]⟩, 0)
theorem fin0 (s : ByteArray) (p j n : Nat) (h : j = 3 ∨ D s (p + j) ≠ 125) : fin s p (p + j, n) = (⟨#[]⟩, 0) := by
  unfold fin
  have : p + j = p + 3 ∨ D s (p + j) ≠ 125 := by
    rcases h with h | h
    · exact .inl (by omega)
    · exact .inr h
  rw [if_pos this]
theorem fin1 (s : ByteArray) (p j n : Nat) (h : j ≠ 3) (h2 : D s (p + j) = 125) (hg : ¬ good (n : Int)) : fin s p (p + j, n) = (⟨#[]⟩, 0) := by
  unfold fin
  rw [if_neg (by simp only []; omega), if_neg hg]
theorem fin2 (s : ByteArray) (p j n : Nat) (h : j ≠ 3) (h2 : D s (p + j) = 125) (hg : good (n : Int)) : fin s p (p + j, n) = (enc n, j + 1) := by
  unfold fin
  rw [if_neg (by simp only []; omega), if_pos hg]
  simp only []
  rw [show p + j + 1 - p = j + 1 by omega]
theorem hrun_ge (s : ByteArray) : ∀ (f p n : Nat), p ≤ (hrun s f p n).1 ∧ (hrun s f p n).1 ≤ p + f
  | 0, p, n => ⟨Nat.le_refl _, Nat.le_refl _⟩
  | f + 1, p, n => by
    rw [hrun]
    split
    · have := hrun_ge s f (p + 1) (n * 16 + (hexv (D s p)).toNat)
      omega
    · exact ⟨Nat.le_refl _, by omega⟩
theorem hrun_reach {s : ByteArray} {L : List Nat} : ∀ (f k p n : Nat), Reach s L k p → Reach s L (k + ((hrun s f p n).1 - p)) (hrun s f p n).1
  | 0, k, p, n, h => by rw [hrun, Nat.sub_self]; exact h
  | f + 1, k, p, n, h => by
    rw [hrun]
    split
    · rename_i c
      have ha := hexv_asc c
      have := hrun_reach f (k + 1) (p + 1) (n * 16 + (hexv (D s p)).toNat) (h.asc ha.1 ha.2)
      have hge := hrun_ge s f (p + 1) (n * 16 + (hexv (D s p)).toNat)
      rw [show k + 1 + ((hrun s f (p + 1) (n * 16 + (hexv (D s p)).toNat)).1 - (p + 1)) = k + ((hrun s f (p + 1) (n * 16 + (hexv (D s p)).toNat)).1 - p) by omega] at this
      exact this
    · rw [Nat.sub_self]; exact h
theorem hrun_le (s : ByteArray) : ∀ (f p n : Nat), (n + 1) * 16 ^ f ≤ 16777216 → (hrun s f p n).2 < 16777216
  | 0, p, n, h => by rw [Nat.pow_zero, Nat.mul_one] at h; rw [hrun]; simp only []; omega
  | f + 1, p, n, h => by
    have hr := hexv_range (D s p)
    have hp : 1 ≤ 16 ^ f := pos16 f
    rw [Nat.pow_succ] at h
    rw [hrun]
    split
    · refine hrun_le s f _ _ (Nat.le_trans (Nat.mul_le_mul_right _ (show n * 16 + (hexv (D s p)).toNat + 1 ≤ (n + 1) * 16 by omega)) ?_)
      rw [Nat.mul_assoc, Nat.mul_comm 16]
      exact h
    · have : (n + 1) * 1 ≤ (n + 1) * (16 ^ f * 16) := Nat.mul_le_mul_left _ (by omega)
      simp only []
      omega
theorem long_bounds (s : ByteArray) (p : Nat) : (long s p).2 ≤ 10 ∧ (long s p).1.size ≤ 4 := by
  have hge := hrun_ge s 6 (p + 3) 0
  unfold long fin
  generalize hrun s 6 (p + 3) 0 = r at *
  split
  · split
    · exact ⟨by simp, by simp [ByteArray.size]⟩
    · split
      · rename_i hg
        have h4 := T2.enc_pos _ hg
        rw [size_list] at h4
        have e : ∀ (x : ByteArray) (n : Nat), x.size ≤ 4 → n ≤ 10 → (x, n).2 ≤ 10 ∧ (x, n).1.size ≤ 4 := fun _ _ h1 h2 => ⟨h2, h1⟩
        exact e _ _ h4.2 (by omega)
      · exact ⟨by simp, by simp [ByteArray.size]⟩
  · exact ⟨by simp, by simp [ByteArray.size]⟩
theorem one_size (x : Int) : (strOfNums [x]).size = 1 := by rw [← size_list, str_by8, by8_len]; rfl
theorem esc_bounds (s : ByteArray) (p : Nat) : (esc s p).2 ≤ 10 ∧ (esc s p).1.size ≤ 4 := by
  have h := long_bounds s p
  unfold esc
  by_cases c1 : D s (p + 1) = 34 ∨ D s (p + 1) = 92
  · rw [if_pos c1]; exact ⟨by simp, by simp only []; rw [one_size]; decide⟩
  rw [if_neg c1]
  by_cases c2 : D s (p + 1) = 110
  · rw [if_pos c2]; exact ⟨by simp, by simp [ByteArray.size]⟩
  rw [if_neg c2]
  by_cases c3 : D s (p + 1) = 114
  · rw [if_pos c3]; exact ⟨by simp, by simp [ByteArray.size]⟩
  rw [if_neg c3]
  by_cases c4 : D s (p + 1) = 116
  · rw [if_pos c4]; exact ⟨by simp, by simp [ByteArray.size]⟩
  rw [if_neg c4]
  by_cases c5 : D s (p + 1) = 120
  · rw [if_pos c5]
    by_cases c6 : hexv (D s (p + 2)) < 0 ∨ hexv (D s (p + 3)) < 0
    · rw [if_pos c6]; exact ⟨by simp, by simp [ByteArray.size]⟩
    · rw [if_neg c6]; exact ⟨by simp, by simp only []; rw [one_size]; decide⟩
  rw [if_neg c5]
  by_cases c7 : D s (p + 1) = 117
  · rw [if_pos c7]; exact h
  rw [if_neg c7]
  exact ⟨by simp, by simp [ByteArray.size]⟩
theorem esc_reach {s : ByteArray} {L : List Nat} {k p : Nat} (h : Reach s L k p) (hp : D s p = 92) (hn : (esc s p).2 ≠ 0) : Reach s L (k + (esc s p).2) (p + (esc s p).2) := by
  have r1 := h.asc (by omega) (by omega)
  have r2 : ∀ c : Int, D s (p + 1) = c → 0 ≤ c → c < 128 → Reach s L (k + 2) (p + 2) := fun c e h0 h1 => r1.asc (by omega) (by omega)
  unfold esc at hn ⊢
  by_cases c1 : D s (p + 1) = 34 ∨ D s (p + 1) = 92
  · rw [if_pos c1]
    rcases c1 with c1 | c1
    · exact r2 _ c1 (by decide) (by decide)
    · exact r2 _ c1 (by decide) (by decide)
  rw [if_neg c1] at hn ⊢
  by_cases c2 : D s (p + 1) = 110
  · rw [if_pos c2]; exact r2 _ c2 (by decide) (by decide)
  rw [if_neg c2] at hn ⊢
  by_cases c3 : D s (p + 1) = 114
  · rw [if_pos c3]; exact r2 _ c3 (by decide) (by decide)
  rw [if_neg c3] at hn ⊢
  by_cases c4 : D s (p + 1) = 116
  · rw [if_pos c4]; exact r2 _ c4 (by decide) (by decide)
  rw [if_neg c4] at hn ⊢
  by_cases c5 : D s (p + 1) = 120
  · rw [if_pos c5] at hn ⊢
    have r2 := r2 _ c5 (by decide) (by decide)
    by_cases c6 : hexv (D s (p + 2)) < 0 ∨ hexv (D s (p + 3)) < 0
    · rw [if_pos c6] at hn; exact absurd rfl hn
    · rw [if_neg c6]
      have a2 := hexv_asc (x := D s (p + 2)) (by omega)
      have a3 := hexv_asc (x := D s (p + 3)) (by omega)
      exact (r2.asc a2.1 a2.2).asc a3.1 a3.2
  rw [if_neg c5] at hn ⊢
  by_cases c7 : D s (p + 1) = 117
  · rw [if_pos c7] at hn ⊢
    have r2 := r2 _ c7 (by decide) (by decide)
    unfold long at hn ⊢
    by_cases c8 : D s (p + 2) = 123
    · rw [if_pos c8] at hn ⊢
      have r3 := r2.asc (by omega) (by omega)
      have hge := hrun_ge s 6 (p + 3) 0
      have rr := hrun_reach 6 (k + 3) (p + 3) 0 r3
      unfold fin at hn ⊢
      by_cases c9 : (hrun s 6 (p + 3) 0).1 = p + 3 ∨ D s (hrun s 6 (p + 3) 0).1 ≠ 125
      · rw [if_pos c9] at hn; exact absurd rfl hn
      · rw [if_neg c9] at hn ⊢
        by_cases cg : good (hrun s 6 (p + 3) 0).2
        · rw [if_pos cg]
          have h125 : D s (hrun s 6 (p + 3) 0).1 = 125 := by
            by_cases e : D s (hrun s 6 (p + 3) 0).1 = 125
            · exact e
            · exact absurd (.inr e) c9
          have := rr.asc (by omega) (by omega)
          simp only []
          rw [show k + ((hrun s 6 (p + 3) 0).1 + 1 - p) = k + 3 + ((hrun s 6 (p + 3) 0).1 - (p + 3)) + 1 by omega, show p + ((hrun s 6 (p + 3) 0).1 + 1 - p) = (hrun s 6 (p + 3) 0).1 + 1 by omega]
          exact this
        · rw [if_neg cg] at hn; exact absurd rfl hn
    · rw [if_neg c8] at hn; exact absurd rfl hn
  rw [if_neg c7] at hn
  exact absurd rfl hn
/-! ### the program's -/
theorem btE (s : ByteArray) (p j : Nat) (h : p + j < s.size) : bt (s.extract p s.size) (j : Int) = D s (p + j) := by
  rw [btL, suf, D_in _ _ h, T2.B_drop]
theorem tj2 (s : ByteArray) (p j n k : Nat) (hz : s.size < 1000000000) (h3 : 3 ≤ j) (hj : p + j ≤ s.size) (hn : n < 2147483648) (hk : 5 < k) :
    text_longEscape.j2 k (s.extract p s.size) (n : Int) (j : Int) = some ((fin s p (p + j, n)).1, ((fin s p (p + j, n)).2 : Int)) := by
  obtain ⟨k, rfl⟩ : ∃ x, k = x + 2 := ⟨k - 2, by omega⟩
  have hes := suf_size s p
  have j3 : ∀ b : Bool, text_longEscape.j3 (k + 1) (n : Int) (j : Int) b = some (if b = true then ((⟨#[]⟩ : ByteArray), 0) else if good n then (enc n, ((j + 1 : Nat) : Int)) else ((⟨#[]⟩ : ByteArray), 0)) := by
    intro b
    simp only [text_longEscape.j3]
    cases b
    · rw [if_neg (by decide), if_neg (by decide), T1.tEncode _ _ (by omega), Option.bind_some]
      by_cases hg : good (n : Int)
      · rw [if_pos hg, if_pos hg, if_pos rfl, wrap64_id (by omega) (by omega), show ((j + 1 : Nat) : Int) = (j : Int) + 1 by omega]
      · rw [if_neg hg, if_neg hg, if_neg (by decide)]
    · rfl
  simp only [text_longEscape.j2]
  by_cases c1 : j = 3
  · rw [if_pos (by omega), j3, if_pos rfl, fin0 s p j n (.inl c1)]; rfl
  · rw [if_neg (by omega)]
    by_cases c2 : p + j < s.size
    · rw [if_neg (by omega), if_pos (by omega), if_pos (by omega), j3, btE s p j c2]
      by_cases c3 : D s (p + j) = 125
      · rw [if_neg (by rw [c3]; decide)]
        by_cases hg : good (n : Int)
        · rw [if_pos hg, fin2 s p j n c1 c3 hg]
        · rw [if_neg hg, fin1 s p j n c1 c3 hg]; rfl
      · rw [if_pos (by rw [bne_iff_ne]; exact c3), fin0 s p j n (.inr c3)]; rfl
    · rw [if_pos (by omega), j3, if_pos rfl, fin0 s p j n (.inr (by rw [D_out _ _ c2]; decide))]; rfl
theorem tlong_l (s : ByteArray) (p : Nat) (hz : s.size < 1000000000) : ∀ (f j n k : Nat), f + j = 9 → 3 ≤ j → p + j ≤ s.size → (n + 1) * 16 ^ f ≤ 16777216 → f + 10 < k →
    text_longEscape.l0 k (s.extract p s.size) (n : Int) (j : Int) = some ((fin s p (hrun s f (p + j) n)).1, ((fin s p (hrun s f (p + j) n)).2 : Int))
  | 0, j, n, k, hf, h3, hj, hn, hk => by
    obtain ⟨k, rfl⟩ : ∃ x, k = x + 1 := ⟨k - 1, by omega⟩
    rw [Nat.pow_zero, Nat.mul_one] at hn
    simp only [text_longEscape.l0, hrun]
    rw [tj2 s p j n k hz h3 hj (by omega) (by omega)]
    by_cases c : (j : Int) < ((s.extract p s.size).size : Int)
    · rw [if_pos c, if_neg (by omega)]
    · rw [if_neg c]
  | f + 1, j, n, k, hf, h3, hj, hn, hk => by
    obtain ⟨k, rfl⟩ : ∃ x, k = x + 1 := ⟨k - 1, by omega⟩
    have hes := suf_size s p
    have hr := hexv_range (D s (p + j))
    have hp : 1 ≤ 16 ^ f := pos16 f
    have hn1 : (n + 1) * 16 ≤ 16777216 := by
      rw [Nat.pow_succ] at hn
      exact Nat.le_trans (Nat.mul_le_mul_left _ (by omega)) hn
    simp only [text_longEscape.l0, hrun]
    rw [tj2 s p j n k hz h3 hj (by omega) (by omega)]
    by_cases c : p + j < s.size
    · rw [if_pos (by omega), if_pos (by omega), if_pos (by omega), btE s p j c, hexValue _ _ (by omega), Option.bind_some]
      by_cases ch : 0 ≤ hexv (D s (p + j))
      · rw [if_pos (by omega), if_pos ch, Option.bind_some, wrap32_id (by omega) (by omega), wrap32_id (by omega) (by omega), wrap64_id (by omega) (by omega)]
        generalize hexv (D s (p + j)) = x at *
        obtain ⟨x, rfl⟩ := Int.eq_ofNat_of_zero_le ch
        rw [show (n : Int) * 16 = ((n * 16 : Nat) : Int) by omega, or16 _ _ (by omega) (by omega), Int.toNat_natCast]
        exact tlong_l s p hz f (j + 1) (n * 16 + x) k (by omega) (by omega) (by omega) (by
          rw [Nat.pow_succ] at hn
          refine Nat.le_trans (Nat.mul_le_mul_right _ (show n * 16 + x + 1 ≤ (n + 1) * 16 by omega)) ?_
          rw [Nat.mul_assoc, Nat.mul_comm 16]; exact hn) (by omega)
      · rw [if_neg (by omega), if_neg ch]
    · rw [if_neg (by omega), if_neg (by rw [D_out _ _ c]; decide)]
theorem tlong (s : ByteArray) (p k : Nat) (hz : s.size < 1000000000) (hp : p < s.size) (hk : 30 < k) : text_longEscape.f k (s.extract p s.size) = some ((long s p).1, ((long s p).2 : Int)) := by
  obtain ⟨k, rfl⟩ : ∃ x, k = x + 1 := ⟨k - 1, by omega⟩
  have hes := suf_size s p
  have j0 : ∀ b : Bool, text_longEscape.j0 (k + 1) (s.extract p s.size) b = if b = true then some ((⟨#[]⟩ : ByteArray), 0) else text_longEscape.l0 k (s.extract p s.size) 0 3 := fun b => rfl
  unfold text_longEscape.f long
  by_cases c : s.size < p + 3
  · rw [if_pos (by omega), j0, if_pos rfl, if_neg (by rw [D_out _ _ (by omega)]; decide)]; rfl
  · rw [if_neg (by omega), if_pos (by omega), j0, show bt (s.extract p s.size) 2 = D s (p + 2) from btE s p 2 (by omega)]
    by_cases c2 : D s (p + 2) = 123
    · rw [if_neg (by rw [c2]; decide), if_pos c2]
      exact tlong_l s p hz 6 3 0 k (by omega) (by omega) (by omega) (by decide) (by omega)
    · rw [if_pos (by rw [bne_iff_ne]; exact c2), if_neg c2]; rfl
theorem or16b' (x t : Int) (hx : 0 ≤ x ∧ x < 16) (ht : 0 ≤ t ∧ t < 16) : Go.bits .or .i64 (wrap64 (x * 16)) t % 256 = x * 16 + t := by
  obtain ⟨x, rfl⟩ := Int.eq_ofNat_of_zero_le hx.1
  obtain ⟨t, rfl⟩ := Int.eq_ofNat_of_zero_le ht.1
  rw [wrap64_id (by omega) (by omega), show (x : Int) * 16 = ((x * 16 : Nat) : Int) by omega, or16b x t (by omega) (by omega)]
  omega
theorem tesc (s : ByteArray) (p k : Nat) (hz : s.size < 1000000000) (hp : p < s.size) (hk : 40 < k) : text_escape.f k (s.extract p s.size) = some ((esc s p).1, ((esc s p).2 : Int)) := by
  obtain ⟨k, rfl⟩ : ∃ x, k = x + 2 := ⟨k - 2, by omega⟩
  have hes := suf_size s p
  have hd1 := D_range s (p + 1)
  unfold text_escape.f esc
  by_cases c0 : p + 1 < s.size
  · rw [if_neg (by omega), if_pos (by omega), show bt (s.extract p s.size) 1 = D s (p + 1) from btE s p 1 c0]
    have hj1 : ∀ b : Bool, (b = true → p + 3 < s.size ∧ 0 ≤ hexv (D s (p + 2)) ∧ 0 ≤ hexv (D s (p + 3))) → text_escape.j1 (k + 1) (s.extract p s.size) b = some (if b = true then (strOfNums [hexv (D s (p + 2)) * 16 + hexv (D s (p + 3))], 4) else ((⟨#[]⟩ : ByteArray), 0)) := by
      intro b hb
      simp only [text_escape.j1]
      cases b
      · rfl
      · obtain ⟨b1, b2, b3⟩ := hb rfl
        have r2 := hexv_range (D s (p + 2))
        have r3 := hexv_range (D s (p + 3))
        rw [if_pos rfl, if_pos rfl, if_pos (by omega), show bt (s.extract p s.size) 2 = D s (p + 2) from btE s p 2 (by omega), hexValue _ _ (by omega), Option.bind_some, if_pos (by omega), show bt (s.extract p s.size) 3 = D s (p + 3) from btE s p 3 (by omega), hexValue _ _ (by omega), Option.bind_some, or16b' _ _ (by omega) (by omega)]
    have hj0 : ∀ b : Bool, (b = true ↔ (D s (p + 1) = 34 ∨ D s (p + 1) = 92)) → text_escape.j0 (k + 2) (s.extract p s.size) (D s (p + 1)) b = some ((esc s p).1, ((esc s p).2 : Int)) := by
      intro b hb
      simp only [text_escape.j0]
      unfold esc
      by_cases c1 : D s (p + 1) = 34 ∨ D s (p + 1) = 92
      · rw [if_pos (hb.2 c1), if_pos c1, if_pos (by decide), if_pos (by omega)]
        have : (s.extract p s.size).extract 1 2 = strOfNums [D s (p + 1)] := ext_list (by
          have e : D s (p + 1) = ((s.data.toList.getD (p + 1) 0).toNat : Int) := by rw [D_in _ _ c0, U.B_list]
          rw [← toList_data, extract_list, suf, str_by8, List.drop_drop, e, List.drop_eq_getElem_cons (by rw [size_list]; omega)]
          simp [by8, size_list, c0])
        rw [this]; rfl
      rw [if_neg (fun h => c1 (hb.1 h)), if_neg c1]
      by_cases c2 : D s (p + 1) = 110
      · rw [if_pos c2, if_pos c2]; rfl
      rw [if_neg c2, if_neg c2]
      by_cases c3 : D s (p + 1) = 114
      · rw [if_pos c3, if_pos c3]; rfl
      rw [if_neg c3, if_neg c3]
      by_cases c4 : D s (p + 1) = 116
      · rw [if_pos c4, if_pos c4]; rfl
      rw [if_neg c4, if_neg c4]
      by_cases c5 : D s (p + 1) = 120
      · rw [if_pos c5, if_pos c5]
        by_cases c6 : p + 3 < s.size
        · rw [if_pos (by omega), if_pos (by omega), show bt (s.extract p s.size) 2 = D s (p + 2) from btE s p 2 (by omega), hexValue _ _ (by omega), Option.bind_some]
          by_cases c7 : 0 ≤ hexv (D s (p + 2))
          · rw [if_pos (by omega), if_pos (by omega), show bt (s.extract p s.size) 3 = D s (p + 3) from btE s p 3 (by omega), hexValue _ _ (by omega), Option.bind_some, hj1 _ (fun h => ⟨c6, c7, by simpa using h⟩)]
            by_cases c8 : 0 ≤ hexv (D s (p + 3))
            · rw [if_pos (decide_eq_true c8), if_neg (by omega)]; rfl
            · rw [if_neg (by rw [decide_eq_false c8]; decide), if_pos (by omega)]; rfl
          · rw [if_neg (by omega), hj1 false (fun h => absurd h (by decide)), if_neg (by decide), if_pos (by omega)]; rfl
        · rw [if_neg (by omega), hj1 false (fun h => absurd h (by decide)), if_neg (by decide), if_pos (.inr (by rw [D_out _ _ c6]; decide))]; rfl
      rw [if_neg c5, if_neg c5]
      by_cases c7 : D s (p + 1) = 117
      · rw [if_pos c7, if_pos c7, tlong s p _ hz hp (by omega), Option.bind_some]
      rw [if_neg c7, if_neg c7]; rfl
    have hj := hj0 (D s (p + 1) == 34)
    by_cases c1 : D s (p + 1) = 34
    · rw [if_pos c1]
      exact hj0 _ (by rw [c1]; decide)
    · rw [if_neg c1]
      exact hj0 _ (by rw [beq_iff_eq]; omega)
  · have e := D_out s (p + 1) c0
    rw [if_pos (by omega), e]
    rfl
theorem qsim (s : ByteArray) (L : List Nat) (hs : s.size ≤ 20000000) (hL : L.length ≤ 20000000) : ∀ (d k p j : Nat) (out : List Int), s.size ≤ p + d → Reach s L j p → j ≤ p → d + 100 < k → out.length ≤ 4 * p →
    ∃ (b : ByteArray) (q i : Nat) (e : Int), text_unquoted.l0 k s (p : Int) out = some (b, (q : Int), e) ∧
      ((e = 0 ∧ Reach s L i q ∧ p < q ∧ i ≤ q) ∨ (e ≠ 0 ∧ b = ⟨#[]⟩)) := by
  intro d
  induction d with
  | zero =>
    intro k p j out hd hR hj hk ho
    obtain ⟨k, rfl⟩ : ∃ x, k = x + 1 := ⟨k - 1, by omega⟩
    have hp : ¬ p < s.size := by omega
    have hp2 := hR.1
    have hl := hR.end_ hp
    refine ⟨⟨#[]⟩, s.size, 0, 11, ?_, .inr ⟨by decide, rfl⟩⟩
    · simp only [text_unquoted.l0]; rw [if_neg (by omega)]
  | succ d ih =>
    intro k p j out hd hR hj hk ho
    obtain ⟨k, rfl⟩ : ∃ x, k = x + 1 := ⟨k - 1, by omega⟩
    by_cases hp : p < s.size
    · obtain ⟨hN, hjl, hrd⟩ := hR.next hp
      have hst := U.stp_le s p hp
      have hpos := U.stp_pos s p
      have hes := suf_size s p
      have hsuf := suf s p
      have hu0 : U.usz (s.extract p s.size) 0 = U.usz s p := by rw [← T2.usz_shift (s := s) (b := s.extract p s.size) (m := p) hsuf.symm (by omega) 0]; rfl
      have hv0 : ∀ n, U.uval (s.extract p s.size) 0 n = U.uval s p n := fun n => by rw [← T2.uval_shift (s := s) (b := s.extract p s.size) (m := p) hsuf.symm 0 n]; rfl
      simp only [text_unquoted.l0]
      rw [if_pos (by omega), if_pos (by omega), if_pos (by omega), show ((p : Int)).toNat = p from rfl, cutE _ (by omega), Option.bind_some, hu0, hv0]
      by_cases hu : U.usz s p = 0
      · rw [if_pos hu, if_pos rfl]
        exact ⟨_, p, 0, 13, rfl, .inr ⟨by decide, rfl⟩⟩
      · have er : U.rn s p = U.uval s p (U.usz s p) := by rw [U.rn, if_neg hu]
        have es : U.stp s p = U.usz s p := by rw [U.stp, if_neg hu]
        have hra := U.uval_range s p hp hu
        have hasc := TV.asc s p
        have hat : atv s p = (U.uval s p (U.usz s p) : Int) := by rw [atv, if_pos hp, if_neg hu]
        rw [if_neg hu, if_neg Bool.false_ne_true]
        simp only []
        rw [es] at hN hst hpos
        by_cases c34 : (U.uval s p (U.usz s p) : Int) = 34
        · rw [if_pos c34]
          refine ⟨strOfNums out, p + 1, j + 1, 0, by rw [wrap64_id (by omega) (by omega)]; rfl, .inl ⟨rfl, ?_, by omega, by omega⟩⟩
          have : U.usz s p = 1 := by omega
          rw [this] at hN
          exact hN
        · rw [if_neg c34]
          by_cases c92 : (U.uval s p (U.usz s p) : Int) = 92
          · rw [if_pos c92]
            have hD : D s p = 92 := (atv_eq s p 92 (by decide) (by decide)).1 (by rw [hat]; exact c92)
            rw [tesc s p k (by omega) hp (by omega), Option.bind_some]
            simp only []
            have hb := esc_bounds s p
            by_cases cn : (esc s p).2 = 0
            · rw [if_pos (by omega)]
              exact ⟨_, p, 0, 12, rfl, .inr ⟨by decide, rfl⟩⟩
            · have hR2 := esc_reach hR hD cn
              rw [if_neg (by omega), if_pos (by omega), wrap64_id (by omega) (by omega), show (p : Int) + ((esc s p).2 : Int) = ((p + (esc s p).2 : Nat) : Int) by omega]
              obtain ⟨b, q, i, e, h1, h2⟩ := ih k (p + (esc s p).2) (j + (esc s p).2) (out ++ bytesOf (esc s p).1) (by omega) hR2 (by omega) (by omega) (by rw [List.length_append, bytesOf_length]; omega)
              refine ⟨b, q, i, e, h1, ?_⟩
              rcases h2 with ⟨g1, g3, g4, g5⟩ | h2
              · exact .inl ⟨g1, g3, by omega, g5⟩
              · exact .inr h2
          · rw [if_neg c92, T1.isHidden k _ (by omega), Option.bind_some]
            by_cases ch : hid (U.uval s p (U.usz s p) : Int) = true
            · rw [if_pos ch]
              exact ⟨_, p, 0, 12, rfl, .inr ⟨by decide, rfl⟩⟩
            · have hex : (s.extract p (p + U.usz s p)).size ≤ 4 := by
                rw [← size_list, ← toList_data, extract_list, List.length_take]
                omega
              rw [if_neg ch, wrap64_id (x := (p : Int) + (U.usz s p : Int)) (by omega) (by omega), show (p : Int) + (U.usz s p : Int) = ((p + U.usz s p : Nat) : Int) by omega, show (((p + U.usz s p : Nat) : Int)).toNat = p + U.usz s p from rfl, if_pos (by omega), if_pos (by omega), if_pos (by omega)]
              obtain ⟨b, q, i, e, h1, h2⟩ := ih k (p + U.usz s p) (j + 1) (out ++ bytesOf (s.extract p (p + U.usz s p))) (by omega) hN (by omega) (by omega) (by rw [List.length_append, bytesOf_length]; omega)
              refine ⟨b, q, i, e, h1, ?_⟩
              rcases h2 with ⟨g1, g3, g4, g5⟩ | h2
              · exact .inl ⟨g1, g3, by omega, g5⟩
              · exact .inr h2
    · have hl := hR.end_ hp
      have hp2 := hR.1
      refine ⟨⟨#[]⟩, s.size, 0, 11, ?_, .inr ⟨by decide, rfl⟩⟩
      · simp only [text_unquoted.l0]; rw [if_neg (by omega)]
/-- From the opening quotation mark on. -/
theorem quoted (s : ByteArray) (L : List Nat) (hs : s.size ≤ 20000000) (hL : L.length ≤ 20000000) (k p j : Nat) (hR : Reach s L j p) (hp : D s p = 34) (hj : j ≤ p) (hk : s.size + 110 < k) :
    ∃ (b : ByteArray) (q i : Nat) (e : Int), text_unquoted.f k s (p : Int) = some (b, (q : Int), e) ∧ ((e = 0 ∧ Reach s L i q ∧ p < q ∧ i ≤ q) ∨ (e ≠ 0 ∧ b = ⟨#[]⟩)) := by
  obtain ⟨k, rfl⟩ : ∃ x, k = x + 1 := ⟨k - 1, by omega⟩
  have hlt := D_lt (s := s) (p := p) (by omega)
  have hR1 := hR.asc (by omega) (by omega)
  obtain ⟨b, q, i, e, h1, h2⟩ := qsim s L hs hL (s.size - (p + 1)) k (p + 1) (j + 1) [] (by omega) hR1 (by omega) (by omega) (by simp)
  have hb : bt s (p : Int) = 34 := by rw [T0.bt_B, ← D_in s p hlt]; exact hp
  have et : text_unquoted.f (k + 1) s (p : Int) = text_unquoted.l0 k s ((p + 1 : Nat) : Int) [] := by
    unfold text_unquoted.f
    rw [if_neg (by omega), if_pos (by omega), if_pos (by omega), hb]
    simp only [text_unquoted.j0]
    rw [if_neg (by decide), wrap64_id (by omega) (by omega)]
    rfl
  refine ⟨b, q, i, e, by rw [et, h1], ?_⟩
  rcases h2 with ⟨g1, g3, g4, g5⟩ | h2
  · exact .inl ⟨g1, g3, by omega, g5⟩
  · exact .inr h2
end TV
end Go.Proofs.YtplhcnlpfoiieaaDoor.Pure
