/- What the program's search keeps: masks of calls, numbers of values, what has failed. -/
import Derived.Test.YtdjdbjcapenjeaaKP2
set_option linter.unusedVariables false
namespace Go.Proofs.Ytdjdbjcapenjeaa.KP3
open Go Go.Proofs.Ytdjdbjcapenjeaa.Dx Go.Proofs.Ytdjdbjcapenjeaa.Dx.TYtdjdbjcapenjeaa
open KP1 KP2 PObeys KB KC.F43 KA.F62
theorem mustF_spec (cs : List D30) : ∀ (l : List Nat) (m : Nat), m < 65536 → (∀ i ∈ l, i < 16) → ∃ M : Nat, mustF cs l (m : Int) = (M : Int) ∧ M < 65536 ∧ ∀ j, M.testBit j = true ↔ m.testBit j = true ∨ (j ∈ l ∧ kn cs j = true)
  | [], m, hm, _ => ⟨m, rfl, hm, fun j => by simp⟩
  | i :: l, m, hm, hl => by
    rw [mustF]
    have hi : i < 16 := hl i (List.mem_cons_self ..)
    have hl' : ∀ k ∈ l, k < 16 := fun k hk => hl k (List.mem_cons_of_mem _ hk)
    cases h : A.F41.val (cs.getD i d30) with
    | false =>
      obtain ⟨M, e1, e2, e3⟩ := mustF_spec cs l m hm hl'
      refine ⟨M, e1, e2, fun j => (e3 j).trans ⟨?_, ?_⟩⟩
      · rintro (a | ⟨a, b⟩)
        · exact .inl a
        · exact .inr ⟨List.mem_cons_of_mem _ a, b⟩
      · rintro (a | ⟨a, b⟩)
        · exact .inl a
        · rcases List.mem_cons.1 a with rfl | a
          · have : A.F41.val (cs.getD j d30) = true := b
            rw [h] at this; cases this
          · exact .inr ⟨a, b⟩
    | true =>
      rw [cond_true, one_nat i (by omega), u32or_nat m _ (by omega) (pow_lt i (by omega))]
      have hm' : m ||| 2 ^ i < 65536 := Nat.or_lt_two_pow (n := 16) hm (Nat.pow_lt_pow_right (by decide) hi)
      obtain ⟨M, e1, e2, e3⟩ := mustF_spec cs l (m ||| 2 ^ i) hm' hl'
      refine ⟨M, e1, e2, fun j => (e3 j).trans ?_⟩
      rw [or_bit, Bool.or_eq_true, decide_eq_true_iff]
      constructor
      · rintro ((a | rfl) | ⟨a, b⟩)
        · exact .inl a
        · exact .inr ⟨List.mem_cons_self .., h⟩
        · exact .inr ⟨List.mem_cons_of_mem _ a, b⟩
      · rintro (a | ⟨a, b⟩)
        · exact .inl (.inl a)
        · rcases List.mem_cons.1 a with rfl | a
          · exact .inl (.inr rfl)
          · exact .inr ⟨a, b⟩
theorem ahF_spec (cs : List D30) (i : Nat) : ∀ (l : List Nat) (m : Nat), m < 65536 → (∀ i ∈ l, i < 16) → ∃ M : Nat, ahF cs (i : Int) l (m : Int) = (M : Int) ∧ M < 65536 ∧ ∀ j, M.testBit j = true ↔ m.testBit j = true ∨ (j ∈ l ∧ bf cs j i = true)
  | [], m, hm, _ => ⟨m, rfl, hm, fun j => by simp⟩
  | k :: l, m, hm, hl => by
    rw [ahF, Int.toNat_natCast]
    have hi : k < 16 := hl k (List.mem_cons_self ..)
    have hl' : ∀ k ∈ l, k < 16 := fun k hk => hl k (List.mem_cons_of_mem _ hk)
    cases h : A.F54.val (cs.getD k d30) (cs.getD i d30) with
    | false =>
      obtain ⟨M, e1, e2, e3⟩ := ahF_spec cs i l m hm hl'
      refine ⟨M, e1, e2, fun j => (e3 j).trans ⟨?_, ?_⟩⟩
      · rintro (a | ⟨a, b⟩)
        · exact .inl a
        · exact .inr ⟨List.mem_cons_of_mem _ a, b⟩
      · rintro (a | ⟨a, b⟩)
        · exact .inl a
        · rcases List.mem_cons.1 a with rfl | a
          · have : A.F54.val (cs.getD j d30) (cs.getD i d30) = true := b
            rw [h] at this; cases this
          · exact .inr ⟨a, b⟩
    | true =>
      rw [cond_true, one_nat k (by omega), u32or_nat m _ (by omega) (pow_lt k (by omega))]
      have hm' : m ||| 2 ^ k < 65536 := Nat.or_lt_two_pow (n := 16) hm (Nat.pow_lt_pow_right (by decide) hi)
      obtain ⟨M, e1, e2, e3⟩ := ahF_spec cs i l (m ||| 2 ^ k) hm' hl'
      refine ⟨M, e1, e2, fun j => (e3 j).trans ?_⟩
      rw [or_bit, Bool.or_eq_true, decide_eq_true_iff]
      constructor
      · rintro ((a | rfl) | ⟨a, b⟩)
        · exact .inl a
        · exact .inr ⟨List.mem_cons_self .., h⟩
        · exact .inr ⟨List.mem_cons_of_mem _ a, b⟩
      · rintro (a | ⟨a, b⟩)
        · exact .inl (.inl a)
        · rcases List.mem_cons.1 a with rfl | a
          · exact .inl (.inr rfl)
          · exact .inr ⟨a, b⟩
theorem range_mem {j n : Nat} : j ∈ List.range' 0 n ↔ j < n := by rw [List.mem_range'_1]; omega
theorem must_spec (cs : List D30) (hn : cs.length ≤ 16) : ∃ M : Nat, mustA cs = (M : Int) ∧ M < 65536 ∧ ∀ j, M.testBit j = true ↔ (j < cs.length ∧ kn cs j = true) := by
  obtain ⟨M, e1, e2, e3⟩ := mustF_spec cs (List.range' 0 cs.length) 0 (by decide) (fun i hi => by have := range_mem.1 hi; omega)
  refine ⟨M, e1, e2, fun j => (e3 j).trans ?_⟩
  rw [Nat.zero_testBit, range_mem]
  exact ⟨fun h => h.resolve_left (by simp), .inr⟩
theorem ahs_len (cs : List D30) : (ahsA cs).length = cs.length := by rw [ahsA, ahsF, List.length_map, List.length_range']
theorem ahs_spec (cs : List D30) (hn : cs.length ≤ 16) (i : Nat) (hi : i < cs.length) : ∃ M : Nat, (ahsA cs).getD i 0 = (M : Int) ∧ M < 65536 ∧ ∀ j, M.testBit j = true ↔ (j < cs.length ∧ bf cs j i = true) := by
  obtain ⟨M, e1, e2, e3⟩ := ahF_spec cs i (List.range' 0 cs.length) 0 (by decide) (fun i hi => by have := range_mem.1 hi; omega)
  refine ⟨M, ?_, e2, fun j => (e3 j).trans ?_⟩
  · rw [ahsA, ahsF, List.getD_eq_getElem?_getD, List.getElem?_map, List.getElem?_range' (by omega)]
    show ahF cs ((0 + 1 * i : Nat) : Int) (List.range' 0 cs.length) 0 = _
    rw [show 0 + 1 * i = i by omega]
    exact e1
  · rw [Nat.zero_testBit, range_mem]
    exact ⟨fun h => h.resolve_left (by simp), .inr⟩
/-- The program skips a call just when it may not come next. -/
theorem skip_ok (cs : List D30) (hn : cs.length ≤ 16) (S i : Nat) (hS : S < 65536) (hi : i < cs.length) : skipB (ahsA cs) (S : Int) (i : Int) = false ↔ fr cs S i := by
  obtain ⟨M, e1, e2, e3⟩ := ahs_spec cs hn i hi
  unfold skipB
  rw [has_bit S i (by omega) (by omega), Int.toNat_natCast, e1, Bool.or_eq_false_iff, u32an_bits M S (by omega) (by omega)]
  exact and_congr Iff.rfl ⟨fun h j h1 h2 => h j ((e3 j).2 ⟨h1, h2⟩), fun h j hj => h j ((e3 j).1 hj).1 ((e3 j).1 hj).2⟩
theorem cpl_ok (cs : List D30) (hn : cs.length ≤ 16) (S : Nat) (hS : S < 65536) : (u32and (S : Int) (mustA cs) == mustA cs) = true ↔ cpl cs S := by
  obtain ⟨M, e1, e2, e3⟩ := must_spec cs hn
  rw [e1, sub_bits S M (by omega) (by omega)]
  exact ⟨fun h j h1 h2 => h j ((e3 j).2 ⟨h1, h2⟩), fun h j hj => h j ((e3 j).1 hj).1 ((e3 j).1 hj).2⟩
/-- The cell of a number. -/
def cellV (vs : List (List Int)) : Nat → D60
  | 0 => d60
  | k + 1 => (true, vs.getD k [], ())
theorem cellV_pre {vs vs' : List (List Int)} (h : vs <+: vs') {w : Nat} (hw : w ≤ vs.length) : cellV vs' w = cellV vs w := by
  cases w with
  | zero => rfl
  | succ k =>
    obtain ⟨t, rfl⟩ := h
    show (true, (vs ++ t).getD k [], ()) = (true, vs.getD k [], ())
    rw [List.getD_eq_getElem?_getD, List.getD_eq_getElem?_getD, List.getElem?_append_left (by omega)]
theorem ixV_spec (x : List Int) (hx : BY x) : ∀ (l : List (List Int)) (i : Int), (∀ y ∈ l, BY y) → (x ∉ l ∧ ixV x l i = -1) ∨ ∃ k : Nat, k < l.length ∧ ixV x l i = i + k ∧ l.getD k [] = x
  | [], i, _ => .inl ⟨by simp, rfl⟩
  | y :: r, i, h => by
    rw [ixV, eqB y x (h y (List.mem_cons_self ..)) hx]
    by_cases e : y = x
    · exact .inr ⟨0, by rw [List.length_cons]; omega, by rw [show B.F47.val y x = true from decide_eq_true e, cond_true]; simp, e⟩
    · rw [show B.F47.val y x = false from decide_eq_false e, cond_false]
      rcases ixV_spec x hx r (i + 1) (fun z hz => h z (List.mem_cons_of_mem _ hz)) with ⟨a, b⟩ | ⟨k, k1, k2, k3⟩
      · exact .inl ⟨fun hm => by rcases List.mem_cons.1 hm with h1 | h1; exact e h1.symm; exact a h1, b⟩
      · exact .inr ⟨k + 1, by rw [List.length_cons]; omega, by rw [k2]; omega, k3⟩
/-- What the search knows. -/
structure Inv (cs : List D30) (vs : List (List Int)) (fl : List Int) : Prop where
  src : ∀ v ∈ vs, ∃ k, k < cs.length ∧ v = rv cs k
  nd : vs.Nodup
  len : fl.length = 2 ^ cs.length
  memo : ∀ S, S < 2 ^ cs.length → ∃ F : Nat, fl.getD S 0 = (F : Int) ∧ F < 4294967296 ∧ ∀ v, F.testBit v = true → v ≤ vs.length ∧ ¬ KP2.Can cs S (cellV vs v)
theorem nodup_le {α : Type} [DecidableEq α] : ∀ (a b : List α), a.Nodup → (∀ x ∈ a, x ∈ b) → a.length ≤ b.length
  | [], b, _, _ => Nat.zero_le _
  | x :: a, b, hn, hs => by
    rw [List.nodup_cons] at hn
    have hx := hs x (List.mem_cons_self ..)
    have := nodup_le a (b.erase x) hn.2 (fun y hy => (List.mem_erase_of_ne (fun e => hn.1 (by rw [← e]; exact hy))).2 (hs y (List.mem_cons_of_mem _ hy)))
    rw [List.length_erase_of_mem hx] at this
    have hp := List.length_pos_of_mem hx
    rw [List.length_cons]; omega
theorem Inv.small {cs : List D30} {vs : List (List Int)} {fl : List Int} (h : Inv cs vs fl) : vs.length ≤ cs.length := by
  have := nodup_le vs (cs.map fun c => c.2.2.1.2.2.2.1) h.nd (fun x hx => by
    obtain ⟨k, hk, rfl⟩ := h.src x hx
    exact List.mem_map.2 ⟨cs.getD k d30, mem_at hk, rfl⟩)
  rw [List.length_map] at this
  exact this
theorem Inv.more {cs : List D30} {vs vs' : List (List Int)} {fl : List Int} (h : Inv cs vs fl) (hp : vs <+: vs') (hs : ∀ v ∈ vs', ∃ k, k < cs.length ∧ v = rv cs k) (hn : vs'.Nodup) : Inv cs vs' fl := by
  refine ⟨hs, hn, h.len, fun S hS => ?_⟩
  obtain ⟨F, e1, e2, e3⟩ := h.memo S hS
  refine ⟨F, e1, e2, fun v hv => ?_⟩
  obtain ⟨a, b⟩ := e3 v hv
  refine ⟨Nat.le_trans a hp.length_le, ?_⟩
  rw [cellV_pre hp a]; exact b
/-- A cell's number. -/
theorem num_ok {cs : List D30} (g : Good cs) {vs : List (List Int)} {fl : List Int} (h : Inv cs vs fl) {x : D60} (hx : XOK cs x) :
    ∃ v : Nat, numV vs x = (v : Int) ∧ v ≤ (numL vs x).length ∧ cellV (numL vs x) v = x ∧ vs <+: numL vs x ∧ Inv cs (numL vs x) fl := by
  rcases hx with rfl | ⟨k, hk, rfl⟩
  · exact ⟨0, rfl, Nat.zero_le _, rfl, List.prefix_rfl, h⟩
  · have hBv : ∀ y ∈ vs, BY y := fun y hy => by obtain ⟨j, hj, rfl⟩ := h.src y hy; exact BY_rv g hj
    unfold numV numL
    dsimp only
    rw [cond_true, cond_true]
    rcases ixV_spec (rv cs k) (BY_rv g hk) vs 0 hBv with ⟨a, b⟩ | ⟨m, m1, m2, m3⟩
    · rw [b, decide_eq_false (by decide), cond_false, cond_false]
      have hp : vs <+: vs ++ [rv cs k] := ⟨[rv cs k], rfl⟩
      refine ⟨vs.length + 1, rfl, by rw [List.length_append, List.length_singleton]; exact Nat.le_refl _, ?_, hp, h.more hp (fun v hv => ?_) ?_⟩
      · show (true, (vs ++ [rv cs k]).getD vs.length [], ()) = _
        rw [List.getD_eq_getElem?_getD, List.getElem?_append_right (Nat.le_refl _), Nat.sub_self]; rfl
      · rcases List.mem_append.1 hv with hv | hv
        · exact h.src v hv
        · exact ⟨k, hk, List.mem_singleton.1 hv⟩
      · rw [List.nodup_append]
        refine ⟨h.nd, by simp, fun a' ha b' hb e => ?_⟩
        rw [List.mem_singleton.1 hb] at e
        exact a (e ▸ ha)
    · rw [m2, Int.zero_add, decide_eq_true (Int.natCast_nonneg m), cond_true, cond_true]
      refine ⟨m + 1, rfl, m1, ?_, List.prefix_rfl, h⟩
      show (true, vs.getD m [], ()) = _
      rw [m3]
/-- A failure is noted. -/
theorem Inv.fail {cs : List D30} {vs : List (List Int)} {fl : List Int} (h : Inv cs vs fl) (hn : cs.length ≤ 16) {S v : Nat} (hS : S < 2 ^ cs.length) (hv : v ≤ vs.length) (hc : ¬ KP2.Can cs S (cellV vs v)) : Inv cs vs (fl.set S (u32or (fl.getD S 0) (one (v : Int)))) := by
  have hv' : v < 32 := by have := h.small; omega
  refine ⟨h.src, h.nd, by rw [List.length_set]; exact h.len, fun S' hS' => ?_⟩
  obtain ⟨F, e1, e2, e3⟩ := h.memo S' hS'
  by_cases e : S = S'
  · subst e
    refine ⟨F ||| 2 ^ v, ?_, Nat.or_lt_two_pow (n := 32) e2 (pow_lt v hv'), fun w hw => ?_⟩
    · rw [e1, one_nat v hv', u32or_nat F _ e2 (pow_lt v hv'), List.getD_eq_getElem?_getD, List.getElem?_set_self (by rw [h.len]; exact hS)]; rfl
    · rw [or_bit, Bool.or_eq_true, decide_eq_true_iff] at hw
      rcases hw with hw | rfl
      · exact e3 w hw
      · exact ⟨hv, hc⟩
  · refine ⟨F, ?_, e2, e3⟩
    rw [List.getD_eq_getElem?_getD, List.getElem?_set_ne e, ← List.getD_eq_getElem?_getD]; exact e1
end Go.Proofs.Ytdjdbjcapenjeaa.KP3
