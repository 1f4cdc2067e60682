/- Plain facts shared by the statements of chapter 1: the words of every line, as the program reads them. No program in sight. -/
import Derived.Test.YtplhcnlpfoiieaaDoorPureTextVT
import Derived.Test.YtplhcnlpfoiieaaDoorPx19
set_option linter.unusedVariables false
set_option linter.unusedSimpArgs false
namespace Go.Proofs.YtplhcnlpfoiieaaDoor.Pure
open Go.RowKit Go.Proofs.YtplhcnlpfoiieaaDoor.P Go.Proofs.YtplhcnlpfoiieaaDoorW.PrintWords Go.Proofs.YtplhcnlpfoiieaaDoorW.PrintLast Go.Proofs.YtplhcnlpfoiieaaDoor.PL

namespace TW
open T1 (good enc hid)
open TU TV
theorem up {α : Type} (F : Nat → Option α) (hm : ∀ k, LeO (F k) (F (k + 1))) {r : α} {k : Nat} (hr : F k = some r) : ∀ d, F (k + d) = some r
  | 0 => hr
  | d + 1 => hm (k + d) r (up F hm hr d)
theorem up' {α : Type} (F : Nat → Option α) (hm : ∀ k, LeO (F k) (F (k + 1))) {r : α} {k m : Nat} (hr : F k = some r) (h : k ≤ m) : F m = some r := by
  obtain ⟨d, rfl⟩ := Nat.exists_eq_add_of_le h
  exact up F hm hr d
theorem quoted (s : ByteArray) (L : List Nat) (hs : s.size ≤ 20000000) (hL : L.length ≤ 20000000) (p j : Nat) (hR : TV.Reach s L j p) (hp : D s p = 34) (hj : j ≤ p) :
    ∃ (b : ByteArray) (q i : Nat) (e : Int), (∀ k, s.size + 120 < k → text_unquoted.f k s (p : Int) = some (b, (q : Int), e)) ∧ ((e = 0 ∧ TV.Reach s L i q ∧ p < q ∧ i ≤ q) ∨ (e ≠ 0 ∧ b = ⟨#[]⟩)) := by
  obtain ⟨b, q, i, e, h1, h2⟩ := TV.quoted s L hs hL (s.size + 111) p j hR hp hj (by omega)
  exact ⟨b, q, i, e, fun k hk => up' (fun k => text_unquoted.f k s (p : Int)) (fun k => text_unquoted.mono _ _ k) h1 (by omega), h2⟩
theorem bt_D (s : ByteArray) (p : Nat) (h : p < s.size) : bt s (p : Int) = D s p := by rw [D_in s p h]; exact T0.bt_B s p
/-- A piece that may stand in a bare word. -/
def okk (s : ByteArray) (p : Nat) : Prop := U.usz s p ≠ 0 ∧ ¬ (U.uval s p (U.usz s p) = 34 ∨ U.uval s p (U.usz s p) = 92 ∨ hid (U.uval s p (U.usz s p) : Int) = true)
/-- Such pieces, no blanks, from p to q. -/
inductive Run (s : ByteArray) : Nat → Nat → Prop
  | nil (p : Nat) : Run s p p
  | cons (p q : Nat) : p < s.size → okk s p → D s p ≠ 32 → Run s (p + U.stp s p) q → Run s p q
/-- The bare word that goes on at p2. -/
theorem bsim (s : ByteArray) (L : List Nat) (hs : s.size ≤ 20000000) (hL : L.length ≤ 20000000) (p : Nat) : ∀ (d p2 j : Nat), s.size ≤ p2 + d → TV.Reach s L j p2 → p ≤ p2 → j ≤ p2 →
    ∃ (q i : Nat) (e : Int), p2 ≤ q ∧ (q = p2 → ¬ p2 < s.size ∨ D s p2 = 32 ∨ D s p2 = 9 ∨ e ≠ 0) ∧ Run s p2 q ∧ (e = 0 → ¬ q < s.size ∨ D s q = 32 ∨ D s q = 9) ∧ (e ≠ 0 → q < s.size ∧ ¬ okk s q) ∧
      ((e = 0 ∧ (∀ k, 2 * d + 40 < k → text_word.l0 k s (p : Int) (p2 : Int) = some (s.extract p q, false, (p : Int), (q : Int), 0)) ∧ TV.Reach s L i q ∧ i ≤ q) ∨
       (e ≠ 0 ∧ (∀ k, 2 * d + 40 < k → text_word.l0 k s (p : Int) (p2 : Int) = some (⟨#[]⟩, false, 0, (q : Int), e)))) := by
  have stop : ∀ (p2 k : Nat), p ≤ p2 → p2 ≤ s.size → 0 < k → text_word.j1 k s (p : Int) (p2 : Int) false = some (s.extract p p2, false, (p : Int), (p2 : Int), 0) := by
    intro p2 k hp hz hk
    obtain ⟨k, rfl⟩ : ∃ x, k = x + 1 := ⟨k - 1, by omega⟩
    simp only [text_word.j1]
    rw [if_neg (by decide), if_pos (by omega), if_pos (by omega), if_pos (by omega)]
    rfl
  have fin : ∀ (p2 j : Nat), ¬ p2 < s.size → TV.Reach s L j p2 → p ≤ p2 → j ≤ p2 → ∀ d, ∃ (q i : Nat) (e : Int), p2 ≤ q ∧ (q = p2 → ¬ p2 < s.size ∨ D s p2 = 32 ∨ D s p2 = 9 ∨ e ≠ 0) ∧ Run s p2 q ∧ (e = 0 → ¬ q < s.size ∨ D s q = 32 ∨ D s q = 9) ∧ (e ≠ 0 → q < s.size ∧ ¬ okk s q) ∧
      ((e = 0 ∧ (∀ k, 2 * d + 40 < k → text_word.l0 k s (p : Int) (p2 : Int) = some (s.extract p q, false, (p : Int), (q : Int), 0)) ∧ TV.Reach s L i q ∧ i ≤ q) ∨
       (e ≠ 0 ∧ (∀ k, 2 * d + 40 < k → text_word.l0 k s (p : Int) (p2 : Int) = some (⟨#[]⟩, false, 0, (q : Int), e)))) := by
    intro p2 j hp hR hpp hj d
    have hl := hR.end_ hp
    refine ⟨p2, j, 0, Nat.le_refl _, fun _ => .inl hp, .nil _, fun _ => .inl hp, fun h => absurd rfl h, .inl ⟨rfl, fun k hk => ?_, hR, hj⟩⟩
    · obtain ⟨k, rfl⟩ : ∃ x, k = x + 1 := ⟨k - 1, by omega⟩
      simp only [text_word.l0]
      rw [if_neg (by omega), stop p2 k hpp hR.1 (by omega)]
  intro d
  induction d with
  | zero => exact fun p2 j hd hR hpp hj => fin p2 j (by omega) hR hpp hj 0
  | succ d ih =>
    intro p2 j hd hR hpp hj
    by_cases hp : p2 < s.size
    · obtain ⟨hN, hjl, hrd⟩ := hR.next hp
      have hst := U.stp_le s p2 hp
      have hpos := U.stp_pos s p2
      by_cases cb : D s p2 = 32 ∨ D s p2 = 9
      · refine ⟨p2, j, 0, Nat.le_refl _, fun _ => .inr (by omega), .nil _, fun _ => .inr cb, fun h => absurd rfl h, .inl ⟨rfl, fun k hk => ?_, hR, hj⟩⟩
        · obtain ⟨k, rfl⟩ : ∃ x, k = x + 1 := ⟨k - 1, by omega⟩
          simp only [text_word.l0]
          rw [if_pos (by omega), if_pos (by omega), bt_D s p2 hp]
          by_cases c32 : D s p2 = 32
          · rw [if_pos c32, stop p2 k hpp hR.1 (by omega)]
          · rw [if_neg c32, show (D s p2 != 9) = false by rw [bne_eq_false_iff_eq]; omega, stop p2 k hpp hR.1 (by omega)]
      · have hes := suf_size s p2
        have hsuf := suf s p2
        have hu0 : U.usz (s.extract p2 s.size) 0 = U.usz s p2 := by rw [← T2.usz_shift (s := s) (b := s.extract p2 s.size) (m := p2) hsuf.symm (by omega) 0]; rfl
        have hv0 : ∀ n, U.uval (s.extract p2 s.size) 0 n = U.uval s p2 n := fun n => by rw [← T2.uval_shift (s := s) (b := s.extract p2 s.size) (m := p2) hsuf.symm 0 n]; rfl
        have et : ∀ k, 30 < k → text_word.l0 (k + 2) s (p : Int) (p2 : Int) = (if U.usz s p2 = 0 then some ((⟨#[]⟩ : ByteArray), false, 0, (p2 : Int), 13) else if U.uval s p2 (U.usz s p2) = 34 ∨ U.uval s p2 (U.usz s p2) = 92 ∨ hid (U.uval s p2 (U.usz s p2) : Int) = true then some ((⟨#[]⟩ : ByteArray), false, 0, (p2 : Int), 14) else text_word.l0 k s (p : Int) ((p2 + U.stp s p2 : Nat) : Int)) := by
          intro k hk
          have ej : text_word.l0 (k + 2) s (p : Int) (p2 : Int) = text_word.j1 (k + 1) s (p : Int) (p2 : Int) true := by
            simp only [text_word.l0]
            rw [if_pos (by omega), if_pos (by omega), bt_D s p2 hp, if_neg (by omega), show (D s p2 != 9) = true by rw [bne_iff_ne]; omega]
          rw [ej]
          simp only [text_word.j1]
          rw [if_pos (by trivial), if_pos (by omega), if_pos (by omega), show ((p2 : Int)).toNat = p2 from rfl, cutE _ (by omega), Option.bind_some, hu0, hv0]
          by_cases hu : U.usz s p2 = 0
          · rw [if_pos hu, if_pos hu, if_pos rfl]
          · rw [if_neg hu, if_neg hu, if_neg Bool.false_ne_true]
            simp only []
            by_cases c34 : U.uval s p2 (U.usz s p2) = 34
            · rw [if_pos (by omega), if_pos (.inl c34)]
            · rw [if_neg (by omega)]
              by_cases c92 : U.uval s p2 (U.usz s p2) = 92
              · rw [if_pos (by omega), if_pos (.inr (.inl c92))]
              · rw [if_neg (by omega), T1.isHidden k _ (by omega), Option.bind_some]
                by_cases ch : hid (U.uval s p2 (U.usz s p2) : Int) = true
                · rw [if_pos ch, if_pos (.inr (.inr ch))]
                · rw [if_neg ch, if_neg (by rintro (h | h | h); exact c34 h; exact c92 h; exact ch h), U.stp, if_neg hu]
                  have e4 : U.usz s p2 ≤ 4 := by
                    have := hst.2
                    rw [U.stp, if_neg hu] at this
                    exact this
                  rw [wrap64_id (by omega) (by omega)]
                  rfl
        by_cases hu : U.usz s p2 = 0
        · refine ⟨p2, 0, 13, Nat.le_refl _, fun _ => .inr (.inr (.inr (by decide))), .nil _, fun h => absurd h (by decide), fun _ => ⟨hp, fun h => h.1 hu⟩, .inr ⟨by decide, fun k hk => ?_⟩⟩
          obtain ⟨k, rfl⟩ : ∃ x, k = x + 2 := ⟨k - 2, by omega⟩
          rw [et k (by omega), if_pos hu]
        · by_cases c : U.uval s p2 (U.usz s p2) = 34 ∨ U.uval s p2 (U.usz s p2) = 92 ∨ hid (U.uval s p2 (U.usz s p2) : Int) = true
          · refine ⟨p2, 0, 14, Nat.le_refl _, fun _ => .inr (.inr (.inr (by decide))), .nil _, fun h => absurd h (by decide), fun _ => ⟨hp, fun h => h.2 c⟩, .inr ⟨by decide, fun k hk => ?_⟩⟩
            obtain ⟨k, rfl⟩ : ∃ x, k = x + 2 := ⟨k - 2, by omega⟩
            rw [et k (by omega), if_neg hu, if_pos c]
          · obtain ⟨q, i, e, h1, h2, hr1, hr2, hr3, h3⟩ := ih (p2 + U.stp s p2) (j + 1) (by omega) hN (by omega) (by omega)
            refine ⟨q, i, e, by omega, fun h => absurd h (by omega), .cons p2 q hp ⟨hu, c⟩ (by omega) hr1, hr2, hr3, ?_⟩
            rcases h3 with ⟨g1, g2, g4⟩ | ⟨g1, g2⟩
            · refine .inl ⟨g1, fun k hk => ?_, g4⟩
              obtain ⟨k, rfl⟩ : ∃ x, k = x + 2 := ⟨k - 2, by omega⟩
              rw [et k (by omega), if_neg hu, if_neg c, g2 k (by omega)]
            · refine .inr ⟨g1, fun k hk => ?_⟩
              obtain ⟨k, rfl⟩ : ∃ x, k = x + 2 := ⟨k - 2, by omega⟩
              rw [et k (by omega), if_neg hu, if_neg c, g2 k (by omega)]
    · exact fin p2 j hp hR hpp hj (d + 1)
/-- A word that is no quoted one. -/
def Good (s : ByteArray) (w : S45) : Prop := w.f1 = false → ∃ p q : Nat, w.f0 = s.extract p q ∧ p < q ∧ q ≤ s.size ∧ Run s p q ∧ D s p ≠ 35
/-- One word of the program. -/
theorem word (s : ByteArray) (L : List Nat) (hs : s.size ≤ 20000000) (hL : L.length ≤ 20000000) (p j : Nat) (hR : TV.Reach s L j p) (hp : p < s.size) (hj : j ≤ p) (hnb : ¬ (D s p = 32 ∨ D s p = 9)) (hn35 : D s p ≠ 35) :
    ∃ (b : ByteArray) (qd : Bool) (a e : Int) (q i : Nat), (∀ k, 2 * s.size + 200 < k → text_word.f k s (p : Int) = some (b, qd, a, (q : Int), e)) ∧
      ((e = 0 ∧ a = p ∧ TV.Reach s L i q ∧ p < q ∧ i ≤ q ∧ Good s ⟨b, qd, a⟩) ∨ e ≠ 0) := by
  have hbt := bt_D s p hp
  by_cases c34 : D s p = 34
  · obtain ⟨b, q, i, e, h1, h2⟩ := quoted s L hs hL p j hR c34 hj
    have tx : ∀ k, 2 * s.size + 200 < k → text_word.f k s (p : Int) = (if e = 0 then (if q < s.size then (if D s q = 32 ∨ D s q = 9 then some (b, true, (p : Int), (q : Int), 0) else some ((⟨#[]⟩ : ByteArray), false, 0, (q : Int), 11)) else some (b, true, (p : Int), (q : Int), 0)) else some ((⟨#[]⟩ : ByteArray), false, 0, (q : Int), e)) := by
      intro k hk
      unfold text_word.f
      rw [if_pos (by omega), if_pos (by omega), hbt, if_pos c34, h1 k (by omega), Option.bind_some]
      simp only []
      by_cases ce : e = 0
      · rw [if_pos ce, if_pos ce]
        by_cases cq : q < s.size
        · rw [if_pos (by omega), if_pos (by omega), if_pos cq, bt_D s q cq]
          by_cases c32 : D s q = 32
          · rw [if_pos c32, if_pos (.inl c32)]
          · rw [if_neg c32]
            by_cases c9 : D s q = 9
            · rw [if_pos c9, if_pos (.inr c9)]
            · rw [if_neg c9, if_neg (by omega)]
        · rw [if_neg (by omega), if_neg cq]
      · rw [if_neg ce, if_neg ce]
    rcases h2 with ⟨rfl, g3, g4, g5⟩ | ⟨g1, g2⟩
    · by_cases cq : q < s.size
      · by_cases cb : D s q = 32 ∨ D s q = 9
        · exact ⟨b, true, p, 0, q, i, fun k hk => by rw [tx k hk, if_pos rfl, if_pos cq, if_pos cb], .inl ⟨rfl, rfl, g3, g4, g5, fun h => absurd h (by simp)⟩⟩
        · exact ⟨⟨#[]⟩, false, 0, 11, q, i, fun k hk => by rw [tx k hk, if_pos rfl, if_pos cq, if_neg cb], .inr (by decide)⟩
      · exact ⟨b, true, p, 0, q, i, fun k hk => by rw [tx k hk, if_pos rfl, if_neg cq], .inl ⟨rfl, rfl, g3, g4, g5, fun h => absurd h (by simp)⟩⟩
    · exact ⟨⟨#[]⟩, false, 0, e, q, i, fun k hk => by rw [tx k hk, if_neg g1], .inr g1⟩
  · obtain ⟨q, i, e, h1, h2, hr1, hr2, hr3, h3⟩ := bsim s L hs hL p (s.size - p) p j (by omega) hR (Nat.le_refl _) hj
    have tx : ∀ k, text_word.f k s (p : Int) = text_word.l0 k s (p : Int) (p : Int) := by
      intro k
      unfold text_word.f
      rw [if_pos (by omega), if_pos (by omega), hbt, if_neg c34]
    rcases h3 with ⟨rfl, g2, g4, g5⟩ | ⟨g1, g2⟩
    · have hpq : p < q := by
        rcases Nat.lt_or_ge p q with h | h
        · exact h
        · have := h2 (by omega)
          omega
      have hq := g4.1
      exact ⟨s.extract p q, false, p, 0, q, i, fun k hk => by rw [tx k, g2 k (by omega)], .inl ⟨rfl, rfl, g4, hpq, g5, fun _ => ⟨p, q, rfl, hpq, hq, hr1, hn35⟩⟩⟩
    · exact ⟨⟨#[]⟩, false, 0, e, q, i, fun k hk => by rw [tx k, g2 k (by omega)], .inr g1⟩
theorem wsim (s : ByteArray) (L : List Nat) (hs : s.size ≤ 20000000) (hL : L.length ≤ 20000000) : ∀ (d p j : Nat) (W : List (S45)), s.size ≤ p + d → TV.Reach s L j p → j ≤ p → W.length ≤ 64 →
    ∃ (W2 : List (S45)) (a e : Int), (∀ k, 4 * d + 2 * s.size + 300 < k → text_Words.l1 k s W (p : Int) = some (W2, a, e)) ∧ W2.length ≤ 64 ∧ (∀ w ∈ W2, w ∈ W ∨ Good s w) := by
  have fin : ∀ (p j : Nat) (W : List (S45)), ¬ p < s.size → TV.Reach s L j p → j ≤ p → W.length ≤ 64 → ∀ d,
    ∃ (W2 : List (S45)) (a e : Int), (∀ k, 4 * d + 2 * s.size + 300 < k → text_Words.l1 k s W (p : Int) = some (W2, a, e)) ∧ W2.length ≤ 64 ∧ (∀ w ∈ W2, w ∈ W ∨ Good s w) := by
    intro p j W hp hR hj hW d
    have hl := hR.end_ hp
    have hz := hR.1
    refine ⟨W, 0, 0, fun k hk => ?_, hW, fun w h => .inl h⟩
    obtain ⟨k, rfl⟩ : ∃ x, k = x + 3 := ⟨k - 3, by omega⟩
    simp only [text_Words.l1, text_Words.j2, text_Words.j3]
    rw [if_neg (by omega), if_pos (by omega), if_pos trivial]
  intro d
  induction d with
  | zero => exact fun p j W hd hR hj hW => fin p j W (by omega) hR hj hW 0
  | succ d ih =>
    intro p j W hd hR hj hW
    by_cases hp : p < s.size
    · obtain ⟨hN, hjl, hrd⟩ := hR.next hp
      have hbt := bt_D s p hp
      by_cases cb : D s p = 32 ∨ D s p = 9
      · have hR1 : TV.Reach s L (j + 1) (p + 1) := hR.asc (by omega) (by omega)
        obtain ⟨W2, a, e, h1, h3⟩ := ih (p + 1) (j + 1) W (by omega) hR1 (by omega) hW
        refine ⟨W2, a, e, fun k hk => ?_, h3⟩
        · obtain ⟨k, rfl⟩ : ∃ x, k = x + 1 := ⟨k - 1, by omega⟩
          simp only [text_Words.l1]
          rw [if_pos (by omega), if_pos (by omega), hbt, wrap64_id (by omega) (by omega)]
          have := h1 k (by omega)
          by_cases c32 : D s p = 32
          · rw [if_pos c32]; exact this
          · rw [if_neg c32, if_pos (by omega)]; exact this
      · have tj : ∀ k, text_Words.l1 (k + 2) s W (p : Int) = text_Words.j3 k s W (p : Int) (D s p == 35) := by
          intro k
          simp only [text_Words.l1, text_Words.j2]
          rw [if_pos (by omega), if_pos (by omega), hbt, if_neg (by omega), if_neg (by omega), if_neg (by omega), if_pos (by omega), if_pos (by omega)]
        by_cases c35 : D s p = 35
        · refine ⟨W, 0, 0, fun k hk => ?_, hW, fun w h => .inl h⟩
          obtain ⟨k, rfl⟩ : ∃ x, k = x + 3 := ⟨k - 3, by omega⟩
          rw [tj (k + 1)]
          simp only [text_Words.j3]
          rw [if_pos (by rw [beq_iff_eq]; exact c35)]
        · by_cases c64 : W.length = 64
          · refine ⟨[], p, 18, fun k hk => ?_, by simp, by simp⟩
            obtain ⟨k, rfl⟩ : ∃ x, k = x + 3 := ⟨k - 3, by omega⟩
            rw [tj (k + 1)]
            simp only [text_Words.j3]
            rw [if_neg (by rw [beq_iff_eq]; exact c35), if_pos (by omega)]
          · obtain ⟨b, qd, a, e, q, i, h1, h2⟩ := word s L hs hL p j hR hp hj cb c35
            rcases h2 with ⟨rfl, rfl, g3, g4, g5, gG⟩ | g1
            · have hq := g3.1
              obtain ⟨W2, a2, e2, i1, i3, i4⟩ := ih q i (W ++ [⟨b, qd, (p : Int)⟩]) (by omega) g3 g5 (by rw [List.length_append]; simp; omega)
              refine ⟨W2, a2, e2, fun k hk => ?_, i3, fun w h => by
                rcases i4 w h with h | h
                · rcases List.mem_append.1 h with h | h
                  · exact .inl h
                  · rw [List.mem_singleton.1 h]; exact .inr gG
                · exact .inr h⟩
              obtain ⟨k, rfl⟩ : ∃ x, k = x + 4 := ⟨k - 4, by omega⟩
              rw [tj (k + 2)]
              simp only [text_Words.j3]
              rw [if_neg (by rw [beq_iff_eq]; exact c35), if_neg (by omega), h1 _ (by omega), Option.bind_some]
              simp only []
              rw [if_pos trivial, if_pos (by omega)]
              simp only [text_Words.l0]
              exact i1 k (by omega)
            · refine ⟨[], q, e, fun k hk => ?_, by simp, by simp⟩
              obtain ⟨k, rfl⟩ : ∃ x, k = x + 3 := ⟨k - 3, by omega⟩
              rw [tj (k + 1)]
              simp only [text_Words.j3]
              rw [if_neg (by rw [beq_iff_eq]; exact c35), if_neg (by omega), h1 _ (by omega), Option.bind_some]
              simp only []
              rw [if_neg g1]
    · exact fin p j W hp hR hj hW (d + 1)
theorem words (s : ByteArray) : ∃ (W : List (S45)) (a e : Int), (∀ k, 100000 < k → text_Words.f k s = some (W, a, e)) ∧ W.length ≤ 64 ∧ (∀ w ∈ W, Good s w) ∧ (s.size > 4096 → e = 10) := by
  by_cases c : s.size > 4096
  · refine ⟨[], 4096, 10, fun k hk => ?_, by simp, by simp, fun _ => rfl⟩
    unfold text_Words.f; rw [if_pos (by omega)]
  · have hL := U.cuts_len s s.size 0
    obtain ⟨W, a, e, h1, h3⟩ := wsim s _ (by omega) (by omega) s.size 0 0 [] (by omega) (reach0 s) (by omega) (by simp)
    refine ⟨W, a, e, fun k hk => ?_, h3.1, fun w h => (h3.2 w h).elim (fun h => absurd h (by simp)) id, fun h => absurd h c⟩
    obtain ⟨k, rfl⟩ : ∃ x, k = x + 1 := ⟨k - 1, by omega⟩
    unfold text_Words.f
    rw [if_neg (by omega)]
    exact h1 k (by omega)
end TW
end Go.Proofs.YtplhcnlpfoiieaaDoor.Pure
