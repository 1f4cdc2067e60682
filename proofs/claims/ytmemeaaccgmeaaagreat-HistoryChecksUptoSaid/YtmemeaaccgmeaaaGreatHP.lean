/- Calls that may be, one by one: the program's way and the document's. -/
import Derived.Test.YtmemeaaccgmeaaaGreatA
set_option linter.unusedVariables false
set_option linter.unusedSimpArgs false
namespace Go.Proofs.YtmemeaaccgmeaaaGreat.HP
open Go Go.Proofs.YtmemeaaccgmeaaaGreat Go.Proofs.YtmemeaaccgmeaaaGreat.Dx Go.Proofs.YtmemeaaccgmeaaaGreat.W
abbrev Cl := D74
abbrev c0 : Cl := d74
abbrev who (c : Cl) : Int := c.1
abbrev sq (c : Cl) : Int := c.2.1
abbrev bg (c : Cl) : Int := c.2.2.2.2.2.1
abbrev en (c : Cl) : Int := c.2.2.2.2.2.2.1
abbrev wi (c : Cl) : Nat := (IntKind.u8.wrap (c.1 - 16)).toNat
abbrev clash := A.F47.val
/-- Does this call not follow, by what is kept? -/
def stopP (P : Cl → Bool) (c : Cl) (b : Int) (es : List (Int × Int)) (la : List Cl) : Bool :=
  !P c || (decide (bg c ≤ b) || (decide (lookA 0 es (bg c) > 0) || ((decide (lookA 0 es (en c) > 0) && decide (en c ≥ 0)) || (decide (sq c ≤ sq (la.getD (wi c) c0)) || (decide (sq (la.getD (wi c) c0) > 0) && decide (en (la.getD (wi c) c0) ≥ bg c))))))
def esB (c : Cl) (es : List (Int × Int)) : List (Int × Int) := setA es (bg c) (IntKind.i64.wrap (lookA 0 es (bg c) + 1))
def esE (c : Cl) (es : List (Int × Int)) : List (Int × Int) := setA es (en c) (IntKind.i64.wrap (lookA 0 es (en c) + 1))
def runP (P : Cl → Bool) : List Cl → Int → Int → List (Int × Int) → List Cl → Int × Int
  | [], _, _, _, _ => (0, 0)
  | c :: r, i, b, es, la => bif stopP P c b es la then (i, 132) else runP P r (i + 1) (bg c) (bif decide (en c ≥ 0) then esE c (esB c es) else esB c es) (la.set (wi c) c)
/-- Does this call not follow, by all calls ahead? -/
def stopD (P : Cl → Bool) (cs : List Cl) (i : Nat) : Bool := !P (cs.getD i c0) || (List.range' 0 i).any fun k => clash (cs.getD k c0) (cs.getD i c0)
def runQ (P : Cl → Bool) (cs : List Cl) : List Nat → Int × Int
  | [] => (0, 0)
  | i :: r => bif stopD P cs i then ((i : Int), 132) else runQ P cs r
theorem clash_iff (a c : Cl) : clash a c = true ↔ (bg c ≤ bg a ∨ bg c = en a ∨ (en c ≥ 0 ∧ (en c = bg a ∨ en c = en a)) ∨ (who c = who a ∧ (sq c ≤ sq a ∨ en a ≥ bg c))) := by
  unfold clash A.F47.val
  by_cases h1 : bg c ≤ bg a
  · simp [h1]
  by_cases h2 : bg c = en a
  · simp [h2]
  by_cases h3 : en c ≥ 0
  · by_cases h4 : en c = bg a
    · simp [h3, h4]
    by_cases h5 : en c = en a
    · simp [h3, h5]
    by_cases h6 : who c = who a
    · by_cases h7 : sq c ≤ sq a <;> simp [h1, h2, h3, h4, h5, h6, h7]
    · simp [h1, h2, h3, h4, h5, h6]
  · by_cases h6 : who c = who a
    · by_cases h7 : sq c ≤ sq a <;> simp [h1, h2, h3, h6, h7]
    · simp [h1, h2, h3, h6]
theorem lookA_set {α : Type} (d : α) (k : Int) (v : α) (key : Int) : ∀ es : List (Int × α), lookA d (setA es k v) key = bif k == key then v else lookA d es key
  | [] => by
    simp only [setA, lookA]
    cases e : k == key with
    | true => rw [beq_iff_eq] at e; rw [e, beq_self_eq_true]
    | false =>
      rw [show (key == k) = false by rw [beq_eq_false_iff_ne] at e ⊢; exact fun h => e h.symm]
  | a :: es => by
    have ih := lookA_set d k v key es
    simp only [setA]
    cases e1 : k == a.1 with
    | true =>
      rw [beq_iff_eq] at e1
      simp only [cond_true, lookA]
      cases e : k == key with
      | true => rw [beq_iff_eq] at e; rw [e, beq_self_eq_true]; rfl
      | false =>
        have e2 : (key == k) = false := by rw [beq_eq_false_iff_ne] at e ⊢; exact fun h => e h.symm
        rw [e2, cond_false, ← e1, e2]; rfl
    | false =>
      simp only [cond_false, lookA]
      cases e2 : key == a.1 with
      | true =>
        rw [beq_iff_eq] at e2
        rw [← e2] at e1
        rw [e1]; rfl
      | false => rw [cond_false, ih]; rfl
/-- What a call that may be has. -/
structure Fit (c : Cl) : Prop where
  w1 : 16 ≤ who c
  w2 : who c ≤ 31
  b0 : 0 ≤ bg c
  s0 : 0 < sq c
structure INV (P : Cl → Bool) (cs : List Cl) (i : Nat) (b : Int) (es : List (Int × Int)) (la : List Cl) : Prop where
  ok : ∀ k, k < i → Fit (cs.getD k c0)
  bb : ∀ x, 0 ≤ x → (x ≤ b ↔ ∃ k, k < i ∧ x ≤ bg (cs.getD k c0))
  ee : ∀ x, lookA 0 es x > 0 ↔ ∃ k, k < i ∧ (x = bg (cs.getD k c0) ∨ (x = en (cs.getD k c0) ∧ en (cs.getD k c0) ≥ 0))
  er : ∀ x, 0 ≤ lookA 0 es x ∧ lookA 0 es x ≤ 2 * i
  ll : la.length = 16
  lw : ∀ w : Nat, w < 16 → (∃ k, k < i ∧ who (cs.getD k c0) = 16 + w ∧ la.getD w c0 = cs.getD k c0 ∧ ∀ k', k' < i → who (cs.getD k' c0) = 16 + w → k' ≤ k) ∨ (la.getD w c0 = c0 ∧ ∀ k, k < i → who (cs.getD k c0) ≠ 16 + w)
  nc : ∀ k k', k < i → k' < k → clash (cs.getD k' c0) (cs.getD k c0) = false
theorem wi_eq {c : Cl} (h : Fit c) : (wi c : Int) = who c - 16 ∧ wi c < 16 := by
  have h1 : 16 ≤ c.1 := h.w1
  have h2 : c.1 ≤ 31 := h.w2
  have : IntKind.u8.wrap (c.1 - 16) = c.1 - 16 := by
    show (c.1 - 16) % 256 = c.1 - 16
    omega
  constructor
  · show ((IntKind.u8.wrap (c.1 - 16)).toNat : Int) = c.1 - 16
    rw [this]; omega
  · show (IntKind.u8.wrap (c.1 - 16)).toNat < 16
    rw [this]; omega
theorem stop_eq {P : Cl → Bool} {cs : List Cl} {i : Nat} {b : Int} {es : List (Int × Int)} {la : List Cl} (hI : INV P cs i b es la) (hF : P (cs.getD i c0) = true → Fit (cs.getD i c0)) : stopP P (cs.getD i c0) b es la = stopD P cs i := by
  unfold stopP stopD
  cases hp : P (cs.getD i c0) with
  | false => rfl
  | true =>
    have f := hF hp
    obtain ⟨e1, e2⟩ := wi_eq f
    have hw := hI.lw _ e2
    generalize cs.getD i c0 = c at *
    rw [Bool.not_true, Bool.false_or, Bool.false_or, Bool.eq_iff_iff, List.any_eq_true]
    simp only [Bool.or_eq_true, Bool.and_eq_true, decide_eq_true_eq]
    have up : ∀ k, k < i → clash (cs.getD k c0) c = true → ∃ x ∈ List.range' 0 i, clash (cs.getD x c0) c = true := fun k hk h => ⟨k, by rw [List.mem_range'_1]; omega, h⟩
    constructor
    · rintro (h | h | ⟨h, h'⟩ | h)
      · obtain ⟨k, hk, hx⟩ := (hI.bb _ f.b0).1 h
        exact up k hk ((clash_iff _ _).2 (.inl hx))
      · obtain ⟨k, hk, hx | ⟨hx, _⟩⟩ := (hI.ee _).1 h
        · exact up k hk ((clash_iff _ _).2 (.inl (by omega)))
        · exact up k hk ((clash_iff _ _).2 (.inr (.inl hx)))
      · obtain ⟨k, hk, hx | ⟨hx, _⟩⟩ := (hI.ee _).1 h
        · exact up k hk ((clash_iff _ _).2 (.inr (.inr (.inl ⟨h', .inl hx⟩))))
        · exact up k hk ((clash_iff _ _).2 (.inr (.inr (.inl ⟨h', .inr hx⟩))))
      · rcases hw with ⟨k, hk, h1, h2, h3⟩ | ⟨h2, h3⟩
        · rw [h2] at h
          exact up k hk ((clash_iff _ _).2 (.inr (.inr (.inr ⟨by omega, by omega⟩))))
        · rw [h2] at h
          have := f.s0
          exact absurd (show sq c ≤ 0 ∨ (0 : Int) < 0 ∧ _ from h) (by rintro (h | ⟨h, _⟩) <;> omega)
    · rintro ⟨k, hk, hx⟩
      rw [List.mem_range'_1] at hk
      have hk : k < i := by omega
      rcases (clash_iff _ _).1 hx with h | h | ⟨h, h'⟩ | ⟨h, h'⟩
      · exact .inl ((hI.bb _ f.b0).2 ⟨k, hk, h⟩)
      · exact .inr (.inl ((hI.ee _).2 ⟨k, hk, .inr ⟨h, by have := f.b0; omega⟩⟩))
      · refine .inr (.inr (.inl ⟨(hI.ee _).2 ⟨k, hk, ?_⟩, h⟩))
        rcases h' with h' | h'
        · exact .inl h'
        · exact .inr ⟨h', by omega⟩
      · rcases hw with ⟨k0, hk0, h1, h2, h3⟩ | ⟨h2, h3⟩
        · have hle := h3 k hk (by omega)
          have s0 := (hI.ok k0 hk0).s0
          by_cases he : k = k0
          · subst he
            rw [h2]
            rcases h' with h' | h'
            · exact .inr (.inr (.inr (.inl h')))
            · exact .inr (.inr (.inr (.inr ⟨s0, h'⟩)))
          · have hn := hI.nc k0 k hk0 (by omega)
            have hn' : ¬ clash (cs.getD k c0) (cs.getD k0 c0) = true := by rw [hn]; decide
            rw [clash_iff] at hn'
            have q1 : ¬ (sq (cs.getD k0 c0) ≤ sq (cs.getD k c0) ∨ en (cs.getD k c0) ≥ bg (cs.getD k0 c0)) := fun h => hn' (.inr (.inr (.inr ⟨by omega, h⟩)))
            rcases h' with h' | h'
            · exact .inr (.inr (.inr (.inl (by rw [h2]; omega))))
            · exact .inl ((hI.bb _ f.b0).2 ⟨k0, hk0, by omega⟩)
        · exact absurd (show who (cs.getD k c0) = 16 + (wi c : Nat) by omega) (h3 k hk)
theorem inv_step {P : Cl → Bool} {cs : List Cl} {i : Nat} {b : Int} {es : List (Int × Int)} {la : List Cl} (hI : INV P cs i b es la) (f : Fit (cs.getD i c0)) (hi : i ≤ 1073741824) (hn : ∀ k, k < i → clash (cs.getD k c0) (cs.getD i c0) = false) :
    INV P cs (i + 1) (bg (cs.getD i c0)) (bif decide (en (cs.getD i c0) ≥ 0) then esE (cs.getD i c0) (esB (cs.getD i c0) es) else esB (cs.getD i c0) es) (la.set (wi (cs.getD i c0)) (cs.getD i c0)) := by
  obtain ⟨e1, e2⟩ := wi_eq f
  have hn' : ∀ k, k < i → ¬ (bg (cs.getD i c0) ≤ bg (cs.getD k c0)) := fun k hk h => by
    have := (clash_iff (cs.getD k c0) (cs.getD i c0)).2 (.inl h)
    rw [hn k hk] at this
    cases this
  have wr : ∀ x, IntKind.i64.wrap (lookA 0 es x + 1) = lookA 0 es x + 1 := fun x => by
    have := hI.er x
    exact w64 (by omega) (by omega)
  have lB : ∀ x, lookA 0 (esB (cs.getD i c0) es) x = bif bg (cs.getD i c0) == x then lookA 0 es (bg (cs.getD i c0)) + 1 else lookA 0 es x := fun x => by
    unfold esB
    rw [lookA_set, wr]
  have lBr : ∀ x, 0 ≤ lookA 0 (esB (cs.getD i c0) es) x ∧ lookA 0 (esB (cs.getD i c0) es) x ≤ 2 * i + 1 := fun x => by
    rw [lB]
    have h1 := hI.er x
    have h2 := hI.er (bg (cs.getD i c0))
    cases bg (cs.getD i c0) == x
    · rw [cond_false]; omega
    · rw [cond_true]; omega
  have lBp : ∀ x, lookA 0 (esB (cs.getD i c0) es) x > 0 ↔ (lookA 0 es x > 0 ∨ x = bg (cs.getD i c0)) := fun x => by
    rw [lB]
    have h2 := hI.er (bg (cs.getD i c0))
    cases h : bg (cs.getD i c0) == x
    · rw [beq_eq_false_iff_ne] at h
      rw [cond_false]
      exact ⟨.inl, fun h' => h'.resolve_right fun e => h e.symm⟩
    · rw [beq_iff_eq] at h
      rw [cond_true]
      exact ⟨fun _ => .inr h.symm, fun _ => by omega⟩
  have lE : ∀ x, lookA 0 (esE (cs.getD i c0) (esB (cs.getD i c0) es)) x = bif en (cs.getD i c0) == x then lookA 0 (esB (cs.getD i c0) es) (en (cs.getD i c0)) + 1 else lookA 0 (esB (cs.getD i c0) es) x := fun x => by
    have h2 := lBr (en (cs.getD i c0))
    unfold esE
    rw [lookA_set, w64 (by omega) (by omega)]
  refine ⟨fun k hk => ?_, fun x hx => ?_, fun x => ?_, fun x => ?_, ?_, fun w hw => ?_, fun k k' hk hk' => ?_⟩
  · by_cases h : k = i
    · subst h; exact f
    · exact hI.ok k (by omega)
  · constructor
    · intro h; exact ⟨i, by omega, h⟩
    · rintro ⟨k, hk, h⟩
      by_cases he : k = i
      · subst he; exact h
      · have := hn' k (by omega); omega
  · have base : (lookA 0 es x > 0 ∨ x = bg (cs.getD i c0)) ∨ (x = en (cs.getD i c0) ∧ en (cs.getD i c0) ≥ 0) ↔ ∃ k, k < i + 1 ∧ (x = bg (cs.getD k c0) ∨ (x = en (cs.getD k c0) ∧ en (cs.getD k c0) ≥ 0)) := by
      rw [hI.ee]
      constructor
      · rintro ((⟨k, hk, h⟩ | h) | h)
        · exact ⟨k, by omega, h⟩
        · exact ⟨i, by omega, .inl h⟩
        · exact ⟨i, by omega, .inr h⟩
      · rintro ⟨k, hk, h⟩
        by_cases he : k = i
        · subst he; exact h.elim (fun h => .inl (.inr h)) .inr
        · exact .inl (.inl ⟨k, by omega, h⟩)
    rw [← base]
    by_cases h0 : en (cs.getD i c0) ≥ 0
    · rw [decide_eq_true h0, cond_true, lE]
      have h2 := lBr (en (cs.getD i c0))
      cases h : en (cs.getD i c0) == x
      · rw [beq_eq_false_iff_ne] at h
        rw [cond_false, lBp]
        exact ⟨.inl, fun h' => h'.resolve_right fun e => h e.1.symm⟩
      · rw [beq_iff_eq] at h
        rw [cond_true]
        exact ⟨fun _ => .inr ⟨h.symm, h0⟩, fun _ => by omega⟩
    · rw [decide_eq_false h0, cond_false, lBp]
      exact ⟨.inl, fun h' => h'.resolve_right fun e => h0 e.2⟩
  · by_cases h0 : en (cs.getD i c0) ≥ 0
    · rw [decide_eq_true h0, cond_true, lE]
      have h1 := lBr x
      have h2 := lBr (en (cs.getD i c0))
      cases en (cs.getD i c0) == x
      · rw [cond_false]; omega
      · rw [cond_true]; omega
    · rw [decide_eq_false h0, cond_false]
      have h1 := lBr x
      omega
  · rw [List.length_set]; exact hI.ll
  · have hg : (la.set (wi (cs.getD i c0)) (cs.getD i c0)).getD w c0 = if wi (cs.getD i c0) = w then cs.getD i c0 else la.getD w c0 := by
      rw [List.getD_eq_getElem?_getD, List.getElem?_set]
      by_cases h : wi (cs.getD i c0) = w
      · rw [if_pos h, if_pos h, if_pos (by rw [hI.ll]; omega)]; rfl
      · rw [if_neg h, if_neg h, ← List.getD_eq_getElem?_getD]
    rw [hg]
    by_cases h : wi (cs.getD i c0) = w
    · rw [if_pos h]
      exact .inl ⟨i, by omega, by omega, rfl, fun k' hk' _ => by omega⟩
    · rw [if_neg h]
      rcases hI.lw w hw with ⟨k, hk, h1, h2, h3⟩ | ⟨h2, h3⟩
      · refine .inl ⟨k, by omega, h1, h2, fun k' hk' hw' => ?_⟩
        by_cases he : k' = i
        · subst he; omega
        · exact h3 k' (by omega) hw'
      · refine .inr ⟨h2, fun k hk hw' => ?_⟩
        by_cases he : k = i
        · subst he; omega
        · exact h3 k (by omega) hw'
  · by_cases he : k = i
    · subst he; exact hn k' hk'
    · exact hI.nc k k' (by omega) hk'
theorem run_eq {P : Cl → Bool} {cs : List Cl} (hF : ∀ i, i < cs.length → P (cs.getD i c0) = true → Fit (cs.getD i c0)) (hl : cs.length ≤ 1073741824) : ∀ (m i : Nat) (b : Int) (es : List (Int × Int)) (la : List Cl), i + m = cs.length → INV P cs i b es la →
    runP P (cs.drop i) i b es la = runQ P cs (List.range' i m)
  | 0, i, b, es, la, h, _ => by rw [List.drop_eq_nil_of_le (by omega)]; rfl
  | m + 1, i, b, es, la, h, hI => by
    have hi : i < cs.length := by omega
    rw [drop_cons hi c0, runP, List.range'_succ, runQ, stop_eq hI (hF i hi)]
    cases hs : stopD P cs i with
    | true => rfl
    | false =>
      unfold stopD at hs
      rw [Bool.or_eq_false_iff, Bool.not_eq_false'] at hs
      have hn : ∀ k, k < i → clash (cs.getD k c0) (cs.getD i c0) = false := fun k hk => by
        have := List.any_eq_false.1 hs.2 k (by rw [List.mem_range'_1]; omega)
        simpa using this
      have := run_eq hF hl m (i + 1) _ _ _ (by omega) (inv_step hI (hF i hi hs.1) (by omega) hn)
      rw [Int.natCast_add] at this
      exact this
theorem run_all {P : Cl → Bool} {cs : List Cl} (hF : ∀ i, i < cs.length → P (cs.getD i c0) = true → Fit (cs.getD i c0)) (hl : cs.length ≤ 1073741824) : runP P cs 0 (-1) [] (List.replicate 16 c0) = runQ P cs (List.range' 0 cs.length) := by
  refine run_eq hF hl cs.length 0 (-1) [] (List.replicate 16 c0) (by omega) ⟨fun k hk => by omega, fun x hx => ⟨fun h => by omega, fun ⟨k, hk, _⟩ => by omega⟩, fun x => ⟨fun h => ?_, fun ⟨k, hk, _⟩ => by omega⟩, fun x => ⟨Int.le_refl _, Int.le_refl _⟩, by simp, fun w hw => .inr ⟨?_, fun k hk => by omega⟩, fun k k' hk => by omega⟩
  · exact absurd (show (0 : Int) > 0 from h) (by decide)
  · rw [List.getD_eq_getElem?_getD, List.getElem?_replicate, if_pos hw]; rfl
end Go.Proofs.YtmemeaaccgmeaaaGreat.HP
