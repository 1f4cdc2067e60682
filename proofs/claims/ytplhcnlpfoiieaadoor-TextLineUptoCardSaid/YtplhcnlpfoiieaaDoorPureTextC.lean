/- Whatever bytes are printed: plain runes between two quotation marks, and they are read back as they were. -/
import Derived.Test.YtplhcnlpfoiieaaDoorPureTextU
import Derived.Test.YtplhcnlpfoiieaaDoorPureTextQ0
set_option linter.unusedVariables false
set_option linter.unusedSimpArgs false
namespace Go.Proofs.YtplhcnlpfoiieaaDoor.Pure
open Go.RowKit Go.Proofs.YtplhcnlpfoiieaaDoor.P Go.Proofs.YtplhcnlpfoiieaaDoorW.PrintWords Go.Proofs.YtplhcnlpfoiieaaDoorW.PrintLast Go.Proofs.YtplhcnlpfoiieaaDoor.PL

namespace TCB
open T3 (hd hexs)
open T1 (good enc hid)
open TU
open TQ (q quote)
theorem hexs_len2 : ∀ (f m n : Nat), n < 16 ^ m → (hexs f n).length ≤ m
  | 0, m, n, h => by simp [hexs]
  | f + 1, 0, n, h => by simp at h; subst h; simp [hexs]
  | f + 1, m + 1, n, h => by
    rw [hexs]
    split
    · simp
    · have := hexs_len2 f m (n / 16) (TQ.pow16 m n h)
      rw [List.length_append]; simp; omega
theorem hexs_pos (f n : Nat) (h : 0 < n) : 0 < (hexs (f + 1) n).length := by
  rw [hexs, if_neg (by omega), List.length_append]; simp
theorem hexs_dig : ∀ (f n : Nat), ∀ x ∈ hexs f n, ∃ d, d < 16 ∧ x = hd d
  | 0, n => by simp [hexs]
  | f + 1, n => by
    intro x hx
    rw [hexs] at hx
    split at hx
    · simp at hx
    · rcases List.mem_append.1 hx with h | h
      · exact hexs_dig f _ x h
      · rw [List.mem_singleton.1 h]; exact ⟨n % 16, Nat.mod_lt _ (by decide), rfl⟩
theorem hd_dig (d : Nat) (h : d < 16) : digit (hd d) := by
  have := T3.hd_range d h
  exact ⟨by omega, by omega, by rw [hexv_hd d h]; omega⟩
/-- The digits of a rune. -/
def digs (r : Nat) : List Int := if r = 0 then [48] else hexs 8 r
theorem digs_ok (r : Nat) (h : r ≤ 1114111) : (∀ x ∈ digs r, ∃ d, d < 16 ∧ x = hd d) ∧ 0 < (digs r).length ∧ (digs r).length ≤ 6 ∧ num16 0 (digs r) = r := by
  unfold digs
  split
  · rename_i h; subst h
    exact ⟨fun x hx => ⟨0, by decide, by rw [List.mem_singleton.1 hx]; rfl⟩, by decide, by decide, rfl⟩
  · exact ⟨hexs_dig 8 r, hexs_pos 7 r (by omega), hexs_len2 8 6 r (by omega), num16_hexs 8 r (by omega)⟩
theorem piece (s : ByteArray) (i : Nat) (hi : i < s.size) (hu : U.usz s i ≠ 0) : s.extract i (i + U.stp s i) = enc (U.uval s i (U.usz s i) : Int) := ext_list (by
  rw [← toList_data, extract_list, (T3.enc_at s i hi hu).2, U.stp, if_neg hu, Nat.add_sub_cancel_left])
theorem piece0 (s : ByteArray) (i : Nat) (hi : i < s.size) (hu : U.usz s i = 0) : s.extract i (i + U.stp s i) = strOfNums [(U.B s i : Int)] := ext_list (by
  rw [← toList_data, extract_list, U.stp, if_pos hu, Nat.add_sub_cancel_left, List.drop_eq_getElem_cons (by rw [size_list]; exact hi), str_by8, U.B_list]
  simp [by8, size_list, hi])
theorem step (s Q : ByteArray) (i p k : Nat) (out : List Int) (rest : List UInt8) (hi : i < s.size) (hQ : Q.size < 100000000) (h : Q.data.toList.drop p = by8 (q s i) ++ rest) (ho : out.length < 100000000) (hk : 70 < k) :
    text_unquoted.l0 (k + 1) Q (p : Int) out = text_unquoted.l0 k Q ((p + (q s i).length : Nat) : Int) (out ++ bytesOf (s.extract i (i + U.stp s i))) := by
  have hb := U.B_lt s i
  have hE := suf Q p
  have hes := suf_size Q p
  have hz : (Q.extract p Q.size).size < 1000000000 := by omega
  have e1 : ∀ c : UInt8, enc (c.toNat : Int) = ⟨#[c]⟩ → True := fun _ _ => trivial
  unfold q at h ⊢
  by_cases hu : U.usz s i = 0
  · rw [if_pos hu] at h ⊢
    rw [piece0 s i hi hu]
    have he := escX (Q.extract p Q.size) rest hz k (by omega) (U.B s i / 16) (U.B s i % 16) (by omega) (by omega) (by rw [hE, h])
    rw [show U.B s i / 16 * 16 + U.B s i % 16 = U.B s i by omega] at he
    rw [escStep Q p k 4 out _ _ h hQ he (by decide) (by decide) (by rw [← size_list, str_by8, by8_len]; simp) (by omega)]
    rfl
  · have hr := U.uval_range s i hi hu
    obtain ⟨hg, -⟩ := T3.enc_at s i hi hu
    rw [if_neg hu] at h ⊢
    rw [piece s i hi hu]
    generalize U.uval s i (U.usz s i) = r at *
    by_cases c1 : r = 34
    · subst c1
      rw [if_pos rfl] at h ⊢
      rw [escStep Q p k 2 out _ _ h hQ (esc2 (Q.extract p Q.size) rest hz k (by omega) 34 (by rw [hE, h]; rfl) (by decide)) (by decide) (by decide) (by decide) (by omega)]
      rfl
    · rw [if_neg c1] at h ⊢
      by_cases c2 : r = 92
      · subst c2
        rw [if_pos rfl] at h ⊢
        rw [escStep Q p k 2 out _ _ h hQ (esc2 (Q.extract p Q.size) rest hz k (by omega) 92 (by rw [hE, h]; rfl) (by decide)) (by decide) (by decide) (by decide) (by omega)]
        rfl
      · rw [if_neg c2] at h ⊢
        by_cases c3 : r = 10
        · subst c3
          rw [if_pos rfl] at h ⊢
          rw [escStep Q p k 2 out _ _ h hQ (escN (Q.extract p Q.size) rest hz k (by omega) 110 10 (by rw [hE, h]; rfl) (by decide)) (by decide) (by decide) (by decide) (by omega)]
          rfl
        · rw [if_neg c3] at h ⊢
          by_cases c4 : r = 13
          · subst c4
            rw [if_pos rfl] at h ⊢
            rw [escStep Q p k 2 out _ _ h hQ (escN (Q.extract p Q.size) rest hz k (by omega) 114 13 (by rw [hE, h]; rfl) (by decide)) (by decide) (by decide) (by decide) (by omega)]
            rfl
          · rw [if_neg c4] at h ⊢
            by_cases c5 : r = 9
            · subst c5
              rw [if_pos rfl] at h ⊢
              rw [escStep Q p k 2 out _ _ h hQ (escN (Q.extract p Q.size) rest hz k (by omega) 116 9 (by rw [hE, h]; rfl) (by decide)) (by decide) (by decide) (by decide) (by omega)]
              rfl
            · rw [if_neg c5] at h ⊢
              by_cases c6 : hid (r : Int) = true
              · rw [if_pos c6] at h ⊢
                obtain ⟨d1, d2, d3, d4⟩ := digs_ok r (by omega)
                change List.drop p Q.data.toList = by8 ([92, 117, 123] ++ digs r ++ [125]) ++ rest at h
                change _ = text_unquoted.l0 k Q ((p + ([92, 117, 123] ++ digs r ++ [125] : List Int).length : Nat) : Int) _
                have he := escU (Q.extract p Q.size) rest hz k (by omega) (digs r) (fun x hx => by obtain ⟨d, g1, g2⟩ := d1 x hx; rw [g2]; exact hd_dig d g1) ⟨d2, d3⟩ (by omega) (by rw [d4]; exact hg) (by rw [hE, h])
                rw [d4] at he
                have hep := T2.enc_pos (r : Int) hg
                rw [escStep Q p k ((digs r).length + 4) out (enc (r : Int)) (by8 ([117, 123] ++ digs r ++ [125]) ++ rest) (by rw [h]; simp [by8]) hQ he (by omega) (by omega) (by rw [← size_list]; omega) (by omega)]
                rw [List.length_append, List.length_append]
                rw [show ([92, 117, 123] : List Int).length + (digs r).length + ([125] : List Int).length = (digs r).length + 4 by simp only [List.length_cons, List.length_nil]; omega]
              · rw [if_neg c6] at h ⊢
                rw [by8_map] at h
                rw [runeStep Q p k (r : Int) out rest hg (by omega) (by omega) (by simpa using c6) h hQ (by omega) (by omega), List.length_map]
theorem bytes_take (s : ByteArray) (i n : Nat) : (bytesOf s).take i ++ bytesOf (s.extract i (i + n)) = (bytesOf s).take (i + n) := by
  unfold bytesOf
  rw [← toList_data (s.extract i (i + n)), extract_list, Nat.add_sub_cancel_left, ← List.map_take, ← List.map_append, ← List.map_take, ← List.take_add]
end TCB
end Go.Proofs.YtplhcnlpfoiieaaDoor.Pure
