/- Whatever bytes are printed: plain runes between two quotation marks, and they are read back as they were. -/
import Derived.Test.YtplhcnlpfoiieaaDoorPureTextU
import Derived.Test.YtplhcnlpfoiieaaDoorPx35
set_option linter.unusedVariables false
set_option linter.unusedSimpArgs false
namespace Go.Proofs.YtplhcnlpfoiieaaDoor.Pure
open Go.RowKit Go.Proofs.YtplhcnlpfoiieaaDoor.P Go.Proofs.YtplhcnlpfoiieaaDoorW.PrintWords Go.Proofs.YtplhcnlpfoiieaaDoorW.PrintLast Go.Proofs.YtplhcnlpfoiieaaDoor.PL

namespace TCB
open T3 (hd hexs)
open T1 (good enc hid)
open TU
open TQ (q quote)
theorem hexs_len2 : ∀ (f m n : Nat), n < 16 ^ m → (hexs f n).length ≤ m
  | 0, m, n, h => by simp [hexs]
  | f + 1, 0, n, h => by simp at h; subst h; simp [hexs]
  | f + 1, m + 1, n, h => by
    rw [hexs]
    split
    · simp
    · have := hexs_len2 f m (n / 16) (TQ.pow16 m n h)
      rw [List.length_append]; simp; omega
theorem hexs_pos (f n : Nat) (h : 0 < n) : 0 < (hexs (f + 1) n).length := by
  rw [hexs, if_neg (by omega), List.length_append]; simp
theorem hexs_dig : ∀ (f n : Nat), ∀ x ∈ hexs f n, ∃ d, d < 16 ∧ x = hd d
  | 0, n => by simp [hexs]
  | f + 1, n => by
    intro x hx
    rw [hexs] at hx
    split at hx
    · simp at hx
    · rcases List.mem_append.1 hx with h | h
      · exact hexs_dig f _ x h
      · rw [List.mem_singleton.1 h]; exact ⟨n % 16, Nat.mod_lt _ (by decide), rfl⟩
theorem hd_dig (d : Nat) (h : d < 16) : digit (hd d) := by
  have := T3.hd_range d h
  exact ⟨by omega, by omega, by rw [hexv_hd d h]; omega⟩
/-- The digits of a rune. -/
def digs (r : Nat) : List Int := if r = 0 then [48] else hexs 8 r
theorem digs_ok (r : Nat) (h : r ≤ 1114111) : (∀ x ∈ digs r, ∃ d, d < 16 ∧ x = hd d) ∧ 0 < (digs r).length ∧ (digs r).length ≤ 6 ∧ num16 0 (digs r) = r := by
  unfold digs
  split
  · rename_i h; subst h
    exact ⟨fun x hx => ⟨0, by decide, by rw [List.mem_singleton.1 hx]; rfl⟩, by decide, by decide, rfl⟩
  · exact ⟨hexs_dig 8 r, hexs_pos 7 r (by omega), hexs_len2 8 6 r (by omega), num16_hexs 8 r (by omega)⟩
theorem piece (s : ByteArray) (i : Nat) (hi : i < s.size) (hu : U.usz s i ≠ 0) : s.extract i (i + U.stp s i) = enc (U.uval s i (U.usz s i) : Int) := ext_list (by
  rw [← toList_data, extract_list, (T3.enc_at s i hi hu).2, U.stp, if_neg hu, Nat.add_sub_cancel_left])
theorem piece0 (s : ByteArray) (i : Nat) (hi : i < s.size) (hu : U.usz s i = 0) : s.extract i (i + U.stp s i) = strOfNums [(U.B s i : Int)] := ext_list (by
  rw [← toList_data, extract_list, U.stp, if_pos hu, Nat.add_sub_cancel_left, List.drop_eq_getElem_cons (by rw [size_list]; exact hi), str_by8, U.B_list]
  simp [by8, size_list, hi])
theorem step (s Q : ByteArray) (i p k : Nat) (out : List Int) (rest : List UInt8) (hi : i < s.size) (hQ : Q.size < 100000000) (h : Q.data.toList.drop p = by8 (q s i) ++ rest) (ho : out.length < 100000000) (hk : 70 < k) :
    text_unquoted.l0 (k + 1) Q (p : Int) out = text_unquoted.l0 k Q ((p + (q s i).length : Nat) : Int) (out ++ bytesOf (s.extract i (i + U.stp s i))) := by
  have hb := U.B_lt s i
  have hE := suf Q p
  have hes := suf_size Q p
  have hz : (Q.extract p Q.size).size < 1000000000 := by omega
  have e1 : ∀ c : UInt8, enc (c.toNat : Int) = ⟨#[c]⟩ → True := fun _ _ => trivial
  unfold q at h ⊢
  by_cases hu : U.usz s i = 0
  · rw [if_pos hu] at h ⊢
    rw [piece0 s i hi hu]
    have he := escX (Q.extract p Q.size) rest hz k (by omega) (U.B s i / 16) (U.B s i % 16) (by omega) (by omega) (by rw [hE, h])
    rw [show U.B s i / 16 * 16 + U.B s i % 16 = U.B s i by omega] at he
    rw [escStep Q p k 4 out _ _ h hQ he (by decide) (by decide) (by rw [← size_list, str_by8, by8_len]; simp) (by omega)]
    rfl
  · have hr := U.uval_range s i hi hu
    obtain ⟨hg, -⟩ := T3.enc_at s i hi hu
    rw [if_neg hu] at h ⊢
    rw [piece s i hi hu]
    generalize U.uval s i (U.usz s i) = r at *
    by_cases c1 : r = 34
    · subst c1
      rw [if_pos rfl] at h ⊢
      rw [escStep Q p k 2 out _ _ h hQ (esc2 (Q.extract p Q.size) rest hz k (by omega) 34 (by rw [hE, h]; rfl) (by decide)) (by decide) (by decide) (by decide) (by omega)]
      rfl
    · rw [if_neg c1] at h ⊢
      by_cases c2 : r = 92
      · subst c2
        rw [if_pos rfl] at h ⊢
        rw [escStep Q p k 2 out _ _ h hQ (esc2 (Q.extract p Q.size) rest hz k (by omega) 92 (by rw [hE, h]; rfl) (by decide)) (by decide) (by decide) (by decide) (by omega)]
        rfl
      · rw [if_neg c2] at h ⊢
        by_cases c3 : r = 10
        · subst c3
          rw [if_pos rfl] at h ⊢
          rw [escStep Q p k 2 out _ _ h hQ (escN (Q.extract p Q.size) rest hz k (by omega) 110 10 (by rw [hE, h]; rfl) (by decide)) (by decide) (by decide) (by decide) (by omega)]
          rfl
        · rw [if_neg c3] at h ⊢
          by_cases c4 : r = 13
          · subst c4
            rw [if_pos rfl] at h ⊢
            rw [escStep Q p k 2 out _ _ h hQ (escN (Q.extract p Q.size) rest hz k (by omega) 114 13 (by rw [hE, h]; rfl) (by decide)) (by decide) (by decide) (by decide) (by omega)]
            rfl
          · rw [if_neg c4] at h ⊢
            by_cases c5 : r = 9
            · subst c5
              rw [if_pos rfl] at h ⊢
              rw [escStep Q p k 2 out _ _ h hQ (escN (Q.extract p Q.size) rest hz k (by omega) 116 9 (by rw [hE, h]; rfl) (by decide)) (by decide) (by decide) (by decide) (by omega)]
              rfl
            · rw [if_neg c5] at h ⊢
              by_cases c6 : hid (r : Int) = true
              · rw [if_pos c6] at h ⊢
                obtain ⟨d1, d2, d3, d4⟩ := digs_ok r (by omega)
                change List.drop p Q.data.toList = by8 ([92, 117, 123] ++ digs r ++ [125]) ++ rest at h
                change _ = text_unquoted.l0 k Q ((p + ([92, 117, 123] ++ digs r ++ [125] : List Int).length : Nat) : Int) _
                have he := escU (Q.extract p Q.size) rest hz k (by omega) (digs r) (fun x hx => by obtain ⟨d, g1, g2⟩ := d1 x hx; rw [g2]; exact hd_dig d g1) ⟨d2, d3⟩ (by omega) (by rw [d4]; exact hg) (by rw [hE, h])
                rw [d4] at he
                have hep := T2.enc_pos (r : Int) hg
                rw [escStep Q p k ((digs r).length + 4) out (enc (r : Int)) (by8 ([117, 123] ++ digs r ++ [125]) ++ rest) (by rw [h]; simp [by8]) hQ he (by omega) (by omega) (by rw [← size_list]; omega) (by omega)]
                rw [List.length_append, List.length_append]
                rw [show ([92, 117, 123] : List Int).length + (digs r).length + ([125] : List Int).length = (digs r).length + 4 by simp only [List.length_cons, List.length_nil]; omega]
              · rw [if_neg c6] at h ⊢
                rw [by8_map] at h
                rw [runeStep Q p k (r : Int) out rest hg (by omega) (by omega) (by simpa using c6) h hQ (by omega) (by omega), List.length_map]
theorem bytes_take (s : ByteArray) (i n : Nat) : (bytesOf s).take i ++ bytesOf (s.extract i (i + n)) = (bytesOf s).take (i + n) := by
  unfold bytesOf
  rw [← toList_data (s.extract i (i + n)), extract_list, Nat.add_sub_cancel_left, ← List.map_take, ← List.map_append, ← List.map_take, ← List.take_add]
theorem loop (s Q : ByteArray) (hs : s.size ≤ 1048576) (hQ : Q.size < 100000000) : ∀ (d k i p : Nat), i ≤ s.size → s.size ≤ i + d → Q.data.toList.drop p = by8 ((U.cuts s d i).flatMap (q s) ++ [34]) → d + 80 < k →
    text_unquoted.l0 k Q (p : Int) ((bytesOf s).take i) = some (s, (Q.size : Int), 0)
  | 0, k, i, p, hi, hd, h, hk => by
    obtain ⟨k, rfl⟩ : ∃ x, k = x + 1 := ⟨k - 1, by omega⟩
    have h' : Q.data.toList.drop p = (enc 34).data.toList ++ [] := by rw [h]; rfl
    have hp : Q.size = p + 1 := by
      have := congrArg List.length h'
      rw [List.length_drop, size_list] at this
      have e : ((enc 34).data.toList ++ []).length = 1 := rfl
      omega
    have hes := suf_size Q p
    obtain ⟨r1, r2, r3⟩ := T2.rune_at (Q.extract p Q.size) 0 34 (by unfold good; omega) [] (by rw [List.drop_zero, suf, h'])
    have hlen : (enc 34).data.toList.length = 1 := rfl
    simp only [text_unquoted.l0]
    rw [if_pos (by omega), if_pos (by omega), if_pos (by omega), show ((p : Int)).toNat = p from rfl, cutE _ r1, if_neg (by omega), Option.bind_some, if_neg Bool.false_ne_true]
    simp only [r3]
    rw [if_pos trivial, wrap64_id (by omega) (by omega), List.take_of_length_le (by rw [bytesOf_length]; omega), str_bytes, hp]
    rfl
  | d + 1, k, i, p, hi, hd, h, hk => by
    obtain ⟨k, rfl⟩ : ∃ x, k = x + 1 := ⟨k - 1, by omega⟩
    by_cases c : i < s.size
    · have hst := U.stp_le s i c
      rw [U.cuts, if_pos c, List.flatMap_cons, List.append_assoc, by8_app] at h
      rw [step s Q i p k _ _ c hQ h (by rw [List.length_take]; omega) (by omega), bytes_take]
      have h2 := T2.drop_next h
      rw [by8_len] at h2
      have hst1 := U.stp_pos s i
      exact loop s Q hs hQ d k (i + U.stp s i) _ (by omega) (by omega) h2 (by omega)
    · have e : U.cuts s (d + 1) i = U.cuts s 0 i := U.cuts_fuel s (d + 1) 0 i (by omega) (by omega)
      rw [e] at h
      exact loop s Q hs hQ 0 (k + 1) i p hi (by omega) h (by omega)
/-- The quoted text is read back. -/
theorem back (s : ByteArray) (hs : s.size ≤ 1048576) (k : Nat) (hk : s.size + 100 < k) : text_Unquote.f k (quote s) = some (s, 0, 0) := by
  have hq := TQ.quote_size s
  obtain ⟨k, rfl⟩ : ∃ x, k = x + 1 := ⟨k - 1, by omega⟩
  have hl : (quote s).data.toList = by8 ([34] ++ ((U.cuts s s.size 0).flatMap (q s) ++ [34])) := by unfold quote; rw [str_by8, List.append_assoc]
  have h0 : 0 < (quote s).size := by rw [← size_list, hl]; simp [by8]
  have hb : bt (quote s) 0 = 34 := by have := btL (quote s) 0; rw [hl] at this; simpa [by8] using this
  have hL := loop s (quote s) hs (by omega) s.size k 0 1 (by omega) (by omega) (by rw [hl, by8_app]; rfl) (by omega)
  unfold text_Unquote.f text_unquoted.f
  rw [if_neg (by omega), if_pos (by omega), if_pos (by omega), hb]
  simp only [text_unquoted.j0]
  rw [if_neg (by decide), show wrap64 (0 + 1) = ((1 : Nat) : Int) by rw [wrap64_id (by decide) (by decide)]; rfl]
  rw [List.take_zero] at hL
  rw [hL, Option.bind_some, if_pos rfl, if_neg (Int.lt_irrefl _)]
/-- The runes that are printed. -/
def qr (s : ByteArray) (i : Nat) : List Int :=
  if U.usz s i = 0 then [92, 120, hd (U.B s i / 16), hd (U.B s i % 16)]
  else if U.uval s i (U.usz s i) = 34 then [92, 34]
  else if U.uval s i (U.usz s i) = 92 then [92, 92]
  else if U.uval s i (U.usz s i) = 10 then [92, 110]
  else if U.uval s i (U.usz s i) = 13 then [92, 114]
  else if U.uval s i (U.usz s i) = 9 then [92, 116]
  else if hid (U.uval s i (U.usz s i) : Int) = true then [92, 117, 123] ++ digs (U.uval s i (U.usz s i)) ++ [125]
  else [(U.uval s i (U.usz s i) : Int)]
theorem asc (r : Int) (h0 : 32 ≤ r) (h1 : r ≤ 126) : good r ∧ hid r = false ∧ (enc r).data.toList = [UInt8.ofNat r.toNat] := by
  obtain ⟨n, rfl⟩ := Int.eq_ofNat_of_zero_le (show 0 ≤ r by omega)
  have hg : good (n : Int) := by unfold good; omega
  refine ⟨hg, decide_eq_false (by omega), ?_⟩
  rw [T1.enc_list n hg, if_pos (by omega)]
  rfl
theorem ascs : ∀ (l : List Int), (∀ x ∈ l, 32 ≤ x ∧ x ≤ 126) → (∀ x ∈ l, good x ∧ hid x = false) ∧ T2.encs l = by8 l
  | [], h => ⟨by simp, rfl⟩
  | x :: l, h => by
    obtain ⟨h1, h2⟩ := ascs l (fun y hy => h y (List.mem_cons_of_mem _ hy))
    obtain ⟨g1, g2, g3⟩ := asc x (h x List.mem_cons_self).1 (h x List.mem_cons_self).2
    refine ⟨fun y hy => ?_, ?_⟩
    · rcases List.mem_cons.1 hy with rfl | hy
      · exact ⟨g1, g2⟩
      · exact h1 y hy
    · rw [T2.encs_cons, g3, h2, by8_cons]; rfl
theorem two (a b : Int) (ha : 32 ≤ a ∧ a ≤ 126) (hb : 32 ≤ b ∧ b ≤ 126) : ∀ x ∈ [a, b], 32 ≤ x ∧ x ≤ 126 := by
  intro x hx
  simp only [List.mem_cons, List.not_mem_nil, or_false] at hx
  omega
theorem qr_ok (s : ByteArray) (i : Nat) (hi : i < s.size) : (∀ x ∈ qr s i, good x ∧ hid x = false) ∧ T2.encs (qr s i) = by8 (q s i) := by
  have hb := U.B_lt s i
  unfold qr q
  by_cases hu : U.usz s i = 0
  · rw [if_pos hu, if_pos hu]
    have h1 := T3.hd_range (U.B s i / 16) (by omega)
    have h2 := T3.hd_range (U.B s i % 16) (by omega)
    refine ascs _ (fun x hx => ?_)
    simp only [List.mem_cons, List.not_mem_nil, or_false] at hx
    omega
  · have hr := U.uval_range s i hi hu
    obtain ⟨hg, -⟩ := T3.enc_at s i hi hu
    rw [if_neg hu, if_neg hu]
    generalize U.uval s i (U.usz s i) = r at *
    by_cases c1 : r = 34
    · rw [if_pos c1, if_pos c1]; exact ascs _ (two _ _ (by decide) (by decide))
    rw [if_neg c1, if_neg c1]
    by_cases c2 : r = 92
    · rw [if_pos c2, if_pos c2]; exact ascs _ (two _ _ (by decide) (by decide))
    rw [if_neg c2, if_neg c2]
    by_cases c3 : r = 10
    · rw [if_pos c3, if_pos c3]; exact ascs _ (two _ _ (by decide) (by decide))
    rw [if_neg c3, if_neg c3]
    by_cases c4 : r = 13
    · rw [if_pos c4, if_pos c4]; exact ascs _ (two _ _ (by decide) (by decide))
    rw [if_neg c4, if_neg c4]
    by_cases c5 : r = 9
    · rw [if_pos c5, if_pos c5]; exact ascs _ (two _ _ (by decide) (by decide))
    rw [if_neg c5, if_neg c5]
    by_cases c6 : hid (r : Int) = true
    · rw [if_pos c6, if_pos c6]
      change _ ∧ T2.encs _ = by8 ([92, 117, 123] ++ digs r ++ [125])
      obtain ⟨d1, d2, d3, d4⟩ := digs_ok r (by omega)
      refine ascs _ (fun x hx => ?_)
      simp only [List.mem_append, List.mem_cons, List.not_mem_nil, or_false] at hx
      rcases hx with (hx | hx) | hx
      · omega
      · obtain ⟨d, g1, rfl⟩ := d1 x hx
        have := T3.hd_range d g1
        omega
      · omega
    · rw [if_neg c6, if_neg c6]
      refine ⟨fun x hx => ?_, ?_⟩
      · rw [List.mem_singleton.1 hx]; exact ⟨hg, by simpa using c6⟩
      · rw [by8_map]; simp [T2.encs]
theorem runes (s : ByteArray) : ∀ L : List Nat, (∀ i ∈ L, i < s.size) → (∀ x ∈ L.flatMap (qr s), good x ∧ hid x = false) ∧ T2.encs (L.flatMap (qr s)) = by8 (L.flatMap (q s))
  | [], h => ⟨by simp, rfl⟩
  | i :: L, h => by
    obtain ⟨h1, h2⟩ := runes s L (fun j hj => h j (List.mem_cons_of_mem _ hj))
    obtain ⟨g1, g2⟩ := qr_ok s i (h i List.mem_cons_self)
    refine ⟨fun x hx => ?_, ?_⟩
    · rw [List.flatMap_cons] at hx
      rcases List.mem_append.1 hx with hx | hx
      · exact g1 x hx
      · exact h1 x hx
    · rw [List.flatMap_cons, List.flatMap_cons, by8_app, ← h2, ← g2]; simp [T2.encs]
theorem loop0 (Q : ByteArray) (hQ : Q.size < 100000000) (rest : Nat) : ∀ (G : List Int) (pre : List (S53)) (k p : Nat), (∀ x ∈ G, good x ∧ hid x = false) → p + (T2.encs G).length = Q.size → pre.length ≤ p → G.length + 30 < k →
    shardlaw1_TextComesBack.l0 k Q (pre ++ T2.mkG G p) (p : Int) (pre.length : Int) = some true
  | [], pre, k, p, hG, hp, hl, hk => by
    obtain ⟨k, rfl⟩ : ∃ x, k = x + 1 := ⟨k - 1, by omega⟩
    have e : (T2.encs ([] : List Int)).length = 0 := rfl
    simp only [shardlaw1_TextComesBack.l0]
    rw [if_neg (by rw [List.length_append, T2.mkG]; simp)]
    congr 1
    rw [beq_iff_eq]
    omega
  | r :: G, pre, k, p, hG, hp, hl, hk => by
    obtain ⟨k, rfl⟩ : ∃ x, k = x + 1 := ⟨k - 1, by omega⟩
    obtain ⟨hg, hh⟩ := hG r List.mem_cons_self
    have hep := T2.enc_pos r hg
    rw [T2.encs_cons, List.length_append] at hp
    rw [List.length_cons] at hk
    have er : rd_T53 (pre ++ T2.mkG (r :: G) p) (pre.length : Int) = ⟨r, (p : Int), ((enc r).data.toList.length : Int), false⟩ := by
      rw [rd_T53, Int.toNat_natCast, List.getD_eq_getElem?_getD, List.getElem?_append_right (Nat.le_refl _), Nat.sub_self, T2.mkG]
      rfl
    have ep : shardlaw1_TextComesBack.l0 k Q (pre ++ T2.mkG (r :: G) p) ((p + (enc r).data.toList.length : Nat) : Int) ((pre.length + 1 : Nat) : Int) = some true := by
      have := loop0 Q hQ rest G (pre ++ [⟨r, (p : Int), ((enc r).data.toList.length : Int), false⟩]) k (p + (enc r).data.toList.length) (fun x hx => hG x (List.mem_cons_of_mem _ hx)) (by omega) (by rw [List.length_append]; simp only [List.length_cons, List.length_nil]; omega) (by omega)
      rw [List.length_append, List.append_assoc] at this
      exact this
    simp only [shardlaw1_TextComesBack.l0, er]
    rw [if_pos (by rw [List.length_append, T2.mkG, List.length_cons]; omega), if_pos (by omega), text_Plain.f, T1.isHidden k _ (by omega), Option.bind_some, Option.bind_some, hh, if_neg (by decide), if_pos (by decide), if_pos trivial, wrap64_id (by omega) (by omega), wrap64_id (by omega) (by omega)]
    exact ep
end TCB
theorem TextComesBack (b : ByteArray) (hb : b.size ≤ 1048576) : ∃ k, shardlaw1_TextComesBack.f k b = some true := by
  have hq := TQ.quote_size b
  have hm := T0.cuts_lt b b.size 0
  obtain ⟨g1, g2⟩ := TCB.runes b _ hm
  have hl : (TQ.quote b).data.toList = TU.by8 ([34] ++ ((U.cuts b b.size 0).flatMap (TQ.q b) ++ [34])) := by unfold TQ.quote; rw [TU.str_by8, List.append_assoc]
  have hl2 : (TQ.quote b).data.toList = T2.encs ([34] ++ ((U.cuts b b.size 0).flatMap (TCB.qr b) ++ [34])) := by
    rw [hl, TU.by8_app, TU.by8_app, ← g2]
    simp only [T2.encs, List.flatMap_append]
    rfl
  have hsz : (TQ.quote b).size = ((U.cuts b b.size 0).flatMap (TQ.q b)).length + 2 := by rw [← size_list, hl]; simp [TU.by8]
  have hb0 : bt (TQ.quote b) 0 = 34 := by have := TU.btL (TQ.quote b) 0; rw [hl] at this; simpa [TU.by8] using this
  have hb1 : bt (TQ.quote b) (((TQ.quote b).size - 1 : Nat) : Int) = 34 := by
    have := TU.btL (TQ.quote b) ((TQ.quote b).size - 1)
    rw [this, hl, hsz, TU.by8_app, TU.by8_app, List.getD_eq_getElem?_getD, List.getElem?_append_right (by simp [TU.by8]), List.getElem?_append_right (by simp [TU.by8])]
    simp [TU.by8]
  have hall : ∀ x ∈ ([34] ++ ((U.cuts b b.size 0).flatMap (TCB.qr b) ++ [34]) : List Int), T1.good x ∧ T1.hid x = false := by
    intro x hx
    have h34 : T1.good 34 ∧ T1.hid 34 = false := ⟨(TCB.asc 34 (by decide) (by decide)).1, (TCB.asc 34 (by decide) (by decide)).2.1⟩
    rcases List.mem_append.1 hx with hx | hx
    · rw [List.mem_singleton.1 hx]; exact h34
    · rcases List.mem_append.1 hx with hx | hx
      · exact g1 x hx
      · rw [List.mem_singleton.1 hx]; exact h34
  have hp : text_Pieces.f (TQ.quote b) = some (T2.mkG ([34] ++ ((U.cuts b b.size 0).flatMap (TCB.qr b) ++ [34])) 0) := by
    have h0 := T2.cuts_encs (TQ.quote b) _ 0 (TQ.quote b).size [] (fun x hx => (hall x hx).1) (by rw [List.drop_zero, List.append_nil, hl2]) (by omega)
    have hend : U.cuts (TQ.quote b) (TQ.quote b).size (0 + (T2.encs ([34] ++ ((U.cuts b b.size 0).flatMap (TCB.qr b) ++ [34]))).length) = [] := U.cuts_end _ _ _ (by rw [← hl2, size_list]; omega)
    rw [T0.tpieces _ (by omega), h0, hend, List.append_nil, T2.map_starts _ _ 0 [] (fun x hx => (hall x hx).1) (by rw [List.drop_zero, List.append_nil, hl2])]
  have hgl : ([34] ++ ((U.cuts b b.size 0).flatMap (TCB.qr b) ++ [34]) : List Int).length ≤ (TQ.quote b).size := by
    have key : ∀ G : List Int, (∀ x ∈ G, T1.good x ∧ T1.hid x = false) → G.length ≤ (T2.encs G).length := by
      intro G
      induction G with
      | nil => simp [T2.encs]
      | cons r G ih =>
        intro h
        have h1 := (T2.enc_pos r (h r List.mem_cons_self).1).1
        have h2 := ih (fun x hx => h x (List.mem_cons_of_mem _ hx))
        rw [T2.encs_cons, List.length_append, List.length_cons]
        omega
    have := key _ hall
    rwa [← hl2, size_list] at this
  refine ⟨30000000 + 1, ?_⟩
  unfold shardlaw1_TextComesBack.f
  rw [TQ.tQuote b (by omega) _ (by omega), Option.bind_some, TCB.back b (by omega) _ (by omega), Option.bind_some, if_pos rfl, if_pos rfl, if_pos rfl, if_neg (by omega), if_pos (by omega), hb0, if_pos rfl, wrap64_id (by omega) (by omega), if_pos (by omega), if_pos (by omega), show ((TQ.quote b).size : Int) - 1 = (((TQ.quote b).size - 1 : Nat) : Int) by omega, hb1]
  simp only [shardlaw1_TextComesBack.j0]
  rw [if_neg (by decide), hp, Option.bind_some]
  exact TCB.loop0 (TQ.quote b) (by omega) 0 _ [] 30000000 0 hall (by rw [← hl2, size_list]; omega) (Nat.le_refl _) (by omega)
end Go.Proofs.YtplhcnlpfoiieaaDoor.Pure
