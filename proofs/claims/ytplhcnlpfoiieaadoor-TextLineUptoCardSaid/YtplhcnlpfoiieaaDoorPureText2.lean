/- Plain facts shared by the statements of chapter 1: how a string made of encodings, with whatever behind it, is cut. No program in sight. -/
import Derived.Test.YtplhcnlpfoiieaaDoorPureText1
set_option linter.unusedVariables false
set_option linter.unusedSimpArgs false
namespace Go.Proofs.YtplhcnlpfoiieaaDoor.Pure
open Go.RowKit Go.Proofs.YtplhcnlpfoiieaaDoor.P Go.Proofs.YtplhcnlpfoiieaaDoorW.PrintWords Go.Proofs.YtplhcnlpfoiieaaDoorW.PrintLast Go.Proofs.YtplhcnlpfoiieaaDoor.PL

namespace T2
open T1 (good enc enc_list)
/-- Bytes by the rest of the string. -/
theorem B_drop (s : ByteArray) (p j : Nat) : U.B s (p + j) = ((s.data.toList.drop p).getD j 0).toNat := by
  rw [U.B_list, List.getD_eq_getElem?_getD, List.getD_eq_getElem?_getD, List.getElem?_drop]
theorem size_drop (s : ByteArray) (p : Nat) : (s.data.toList.drop p).length = s.size - p := by rw [List.length_drop, size_list]
theorem enc_size (r : Int) (hg : good r) : (enc r).data.toList.length = if r < 128 then 1 else if r < 2048 then 2 else if r < 65536 then 3 else 4 := by
  obtain ⟨n, rfl⟩ := Int.eq_ofNat_of_zero_le (show 0 ≤ r by unfold good at hg; omega)
  rw [enc_list n hg]
  repeat' split
  all_goals first | rfl | (exfalso; omega)
/-- A rune's encoding at p. -/
theorem rune_at (s : ByteArray) (p : Nat) (r : Int) (hg : good r) (rest : List UInt8) (hd : s.data.toList.drop p = (enc r).data.toList ++ rest) :
    p < s.size ∧ U.usz s p = (enc r).data.toList.length ∧ ((U.uval s p (U.usz s p) : Nat) : Int) = r := by
  have hsz := size_drop s p
  have h0 := B_drop s p 0
  have h1 := B_drop s p 1
  have h2 := B_drop s p 2
  have h3 := B_drop s p 3
  rw [hd] at hsz h0 h1 h2 h3
  have hes := enc_size r hg
  have hgd := hg
  unfold good at hgd
  obtain ⟨n, rfl⟩ := Int.eq_ofNat_of_zero_le (show 0 ≤ r by omega)
  have hl := enc_list n hg
  have hp : p < s.size := by
    rw [List.length_append] at hsz
    have : 1 ≤ (enc (n : Int)).data.toList.length := by
      rw [hes]
      (repeat' split) <;> omega
    omega
  have u8 : ∀ x : Nat, x < 256 → (UInt8.ofNat x).toNat = x := fun x h => by rw [UInt8.toNat_ofNat']; omega
  refine ⟨hp, ?_⟩
  by_cases c1 : n < 128
  · rw [if_pos c1] at hl
    rw [hl] at hsz h0 h1 h2 h3
    simp only [List.cons_append, List.nil_append, List.getD_cons_zero, List.getD_cons_succ, List.length_cons, Nat.add_zero] at hsz h0 h1 h2 h3
    rw [u8 _ (by omega)] at h0
    rw [hl]
    rcases U.usz_cases s p hp with ⟨h, hc⟩ | ⟨h, hc⟩ | ⟨h, hc⟩ | ⟨h, hc⟩ | ⟨h, hc⟩
    · rw [h]; refine ⟨rfl, ?_⟩; simp only [U.uval, if_true]; omega
    all_goals (exfalso; omega)
  · rw [if_neg c1] at hl
    by_cases c2 : n < 2048
    · rw [if_pos c2] at hl
      rw [hl] at hsz h0 h1 h2 h3
      simp only [List.cons_append, List.nil_append, List.getD_cons_zero, List.getD_cons_succ, List.length_cons, Nat.add_zero] at hsz h0 h1 h2 h3
      rw [u8 _ (by omega)] at h0 h1
      rw [hl]
      rcases U.usz_cases s p hp with ⟨h, hc⟩ | ⟨h, hc⟩ | ⟨h, hc⟩ | ⟨h, hc⟩ | ⟨h, hc⟩
      · exfalso; omega
      · rw [h]
        have e : U.uval s p 2 = (U.B s p - 192) * 64 + (U.B s (p + 1) - 128) := by simp [U.uval]
        refine ⟨rfl, ?_⟩; rw [e]; omega
      all_goals (exfalso; omega)
    · rw [if_neg c2] at hl
      by_cases c3 : n < 65536
      · rw [if_pos c3] at hl
        rw [hl] at hsz h0 h1 h2 h3
        simp only [List.cons_append, List.nil_append, List.getD_cons_zero, List.getD_cons_succ, List.length_cons, Nat.add_zero] at hsz h0 h1 h2 h3
        rw [u8 _ (by omega)] at h0 h1 h2
        rw [hl]
        rcases U.usz_cases s p hp with ⟨h, hc⟩ | ⟨h, hc⟩ | ⟨h, hc⟩ | ⟨h, hc⟩ | ⟨h, hc⟩
        · exfalso; omega
        · exfalso; omega
        · rw [h]
          have e : U.uval s p 3 = ((U.B s p - 224) * 64 + (U.B s (p + 1) - 128)) * 64 + (U.B s (p + 2) - 128) := by simp [U.uval]
          refine ⟨rfl, ?_⟩; rw [e]; omega
        all_goals (exfalso; omega)
      · rw [if_neg c3] at hl
        rw [hl] at hsz h0 h1 h2 h3
        simp only [List.cons_append, List.nil_append, List.getD_cons_zero, List.getD_cons_succ, List.length_cons, Nat.add_zero] at hsz h0 h1 h2 h3
        rw [u8 _ (by omega)] at h0 h1 h2 h3
        rw [hl]
        rcases U.usz_cases s p hp with ⟨h, hc⟩ | ⟨h, hc⟩ | ⟨h, hc⟩ | ⟨h, hc⟩ | ⟨h, hc⟩
        · exfalso; omega
        · exfalso; omega
        · exfalso; omega
        · rw [h]
          have e : U.uval s p 4 = (((U.B s p - 240) * 64 + (U.B s (p + 1) - 128)) * 64 + (U.B s (p + 2) - 128)) * 64 + (U.B s (p + 3) - 128) := by simp [U.uval]
          refine ⟨rfl, ?_⟩; rw [e]; omega
        · exfalso; omega
theorem enc_pos (r : Int) (hg : good r) : 1 ≤ (enc r).data.toList.length ∧ (enc r).data.toList.length ≤ 4 := by
  rw [enc_size r hg]
  constructor <;> ((repeat' split) <;> omega)

/-- The encodings of runes, end to end. -/
def encs (G : List Int) : List UInt8 := G.flatMap fun r => (enc r).data.toList
/-- Where they begin. -/
def starts : List Int → Nat → List Nat
  | [], _ => []
  | r :: G, p => p :: starts G (p + (enc r).data.toList.length)
theorem encs_cons (r : Int) (G : List Int) : encs (r :: G) = (enc r).data.toList ++ encs G := by simp [encs]
theorem encs_snoc (r : Int) (G : List Int) : encs (G ++ [r]) = encs G ++ (enc r).data.toList := by simp [encs]
theorem starts_len : ∀ (G : List Int) (p : Nat), (starts G p).length = G.length
  | [], _ => rfl
  | r :: G, p => by rw [starts, List.length_cons, List.length_cons, starts_len G]
theorem stp_of {s : ByteArray} {p : Nat} {r : Int} (hg : good r) {rest : List UInt8} (hd : s.data.toList.drop p = (enc r).data.toList ++ rest) : U.stp s p = (enc r).data.toList.length ∧ ((U.rn s p : Nat) : Int) = r ∧ U.usz s p ≠ 0 ∧ p < s.size := by
  obtain ⟨h1, h2, h3⟩ := rune_at s p r hg rest hd
  have := (enc_pos r hg).1
  have hu : U.usz s p ≠ 0 := by omega
  exact ⟨by rw [U.stp, if_neg hu, h2], by rw [U.rn, if_neg hu]; exact h3, hu, h1⟩
theorem drop_next {l : List UInt8} {p : Nat} {a b : List UInt8} (h : l.drop p = a ++ b) : l.drop (p + a.length) = b := by
  rw [← List.drop_drop, h, List.drop_left]
/-- A string that goes on, from p, with encodings. -/
theorem cuts_encs (s : ByteArray) : ∀ (G : List Int) (p k : Nat) (rest : List UInt8), (∀ r ∈ G, good r) → s.data.toList.drop p = encs G ++ rest → s.size ≤ p + k → U.cuts s k p = starts G p ++ U.cuts s k (p + (encs G).length)
  | [], p, k, rest, hG, hd, hk => by simp [starts, encs]
  | r :: G, p, k, rest, hG, hd, hk => by
    have hg := hG r List.mem_cons_self
    rw [encs_cons, List.append_assoc] at hd
    obtain ⟨h1, h2, h3, h4⟩ := stp_of hg hd
    have h5 := (enc_pos r hg).1
    obtain ⟨k, rfl⟩ : ∃ m, k = m + 1 := ⟨k - 1, by omega⟩
    rw [U.cuts, if_pos h4, h1, starts, List.cons_append]
    congr 1
    rw [U.cuts_fuel s k (k + 1) _ (by omega) (by omega), cuts_encs s G _ (k + 1) rest (fun x hx => hG x (List.mem_cons_of_mem _ hx)) (drop_next hd) (by omega), encs_cons, List.length_append, Nat.add_assoc]
/-- Each piece of them. -/
def mkG : List Int → Nat → List (S53)
  | [], _ => []
  | r :: G, p => ⟨r, p, (enc r).data.toList.length, false⟩ :: mkG G (p + (enc r).data.toList.length)
theorem map_starts (s : ByteArray) : ∀ (G : List Int) (p : Nat) (rest : List UInt8), (∀ r ∈ G, good r) → s.data.toList.drop p = encs G ++ rest → (starts G p).map (text_Pieces.at_ s) = mkG G p
  | [], p, rest, hG, hd => rfl
  | r :: G, p, rest, hG, hd => by
    have hg := hG r List.mem_cons_self
    rw [encs_cons, List.append_assoc] at hd
    obtain ⟨h1, h2, h3, h4⟩ := stp_of hg hd
    rw [starts, mkG, List.map_cons, map_starts s G _ rest (fun x hx => hG x (List.mem_cons_of_mem _ hx)) (drop_next hd)]
    congr 1
    rw [text_Pieces.at_, h1, h2, decide_eq_false h3]
theorem mkG_len : ∀ (G : List Int) (p : Nat), (mkG G p).length = G.length
  | [], _ => rfl
  | r :: G, p => by rw [mkG, List.length_cons, List.length_cons, mkG_len G]
theorem mkG_whole : ∀ (G : List Int) (p : Nat), ∀ x ∈ mkG G p, x.f3 = false
  | [], _ => by simp [mkG]
  | r :: G, p => by
    intro x hx
    rw [mkG] at hx
    rcases List.mem_cons.1 hx with rfl | hx
    · rfl
    · exact mkG_whole G _ x hx

/-! ### what stands ahead -/
theorem B_shift {s b : ByteArray} {m : Nat} (hd : s.data.toList.drop m = b.data.toList) (q : Nat) : U.B s (m + q) = U.B b q := by rw [B_drop, hd, U.B_list]
theorem usz_shift {s b : ByteArray} {m : Nat} (hd : s.data.toList.drop m = b.data.toList) (hm : m ≤ s.size) (q : Nat) : U.usz s (m + q) = U.usz b q := by
  have hs : s.size - m = b.size := by rw [← size_drop, hd, size_list]
  have hb : ∀ j lo hi, U.bet s (m + j) lo hi = U.bet b j lo hi := by
    intro j lo hi
    rw [Bool.eq_iff_iff, U.bet_iff, U.bet_iff, B_shift hd]
    omega
  unfold U.usz
  simp only [Nat.add_assoc, hb, B_shift hd]
theorem uval_shift {s b : ByteArray} {m : Nat} (hd : s.data.toList.drop m = b.data.toList) (q n : Nat) : U.uval s (m + q) n = U.uval b q n := by
  unfold U.uval
  simp only [Nat.add_assoc, B_shift hd]
theorem stp_shift {s b : ByteArray} {m : Nat} (hd : s.data.toList.drop m = b.data.toList) (hm : m ≤ s.size) (q : Nat) : U.stp s (m + q) = U.stp b q := by
  unfold U.stp; rw [usz_shift hd hm]
theorem rn_shift {s b : ByteArray} {m : Nat} (hd : s.data.toList.drop m = b.data.toList) (hm : m ≤ s.size) (q : Nat) : U.rn s (m + q) = U.rn b q := by
  unfold U.rn; rw [usz_shift hd hm, uval_shift hd, B_shift hd]
theorem cuts_shift {s b : ByteArray} {m : Nat} (hd : s.data.toList.drop m = b.data.toList) (hm : m ≤ s.size) : ∀ (k q : Nat), U.cuts s k (m + q) = (U.cuts b k q).map (m + ·)
  | 0, q => rfl
  | k + 1, q => by
    have hs : s.size - m = b.size := by rw [← size_drop, hd, size_list]
    rw [U.cuts, U.cuts, stp_shift hd hm, Nat.add_assoc, cuts_shift hd hm k]
    by_cases h : q < b.size
    · rw [if_pos h, if_pos (by omega)]; rfl
    · rw [if_neg h, if_neg (by omega)]; rfl
/-- THE CUT OF ENCODINGS AND A TAIL. -/
theorem cuts_all (s b : ByteArray) (G : List Int) (hG : ∀ r ∈ G, good r) (hd : s.data.toList = encs G ++ b.data.toList) (k : Nat) (hk : s.size ≤ k) :
    U.cuts s k 0 = starts G 0 ++ (U.cuts b b.size 0).map ((encs G).length + ·) := by
  have hsz : s.size = (encs G).length + b.size := by rw [← size_list s, hd, List.length_append, size_list]
  have hd2 : s.data.toList.drop (encs G).length = b.data.toList := by rw [hd, List.drop_left]
  rw [cuts_encs s G 0 k b.data.toList hG (by rw [List.drop_zero]; exact hd) (by omega), Nat.zero_add]
  congr 1
  have := cuts_shift hd2 (by omega) k 0
  rw [Nat.add_zero] at this
  rw [this, U.cuts_fuel b k b.size 0 (by omega) (by omega)]
end T2
end Go.Proofs.YtplhcnlpfoiieaaDoor.Pure
