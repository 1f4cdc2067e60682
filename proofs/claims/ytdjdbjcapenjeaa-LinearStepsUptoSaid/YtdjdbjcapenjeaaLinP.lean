/- Layer 14, steps: what the program's and the document's small functions say of a call is the same (no memory). -/
import Derived.Test.YtdjdbjcapenjeaaLinC
import Derived.Test.YtdjdbjcapenjeaaLinB
import Derived.Test.YtdjdbjcapenjeaaPx7
import Derived.Test.YtdjdbjcapenjeaaPx2
namespace Go.Proofs.Ytdjdbjcapenjeaa.P
open Go.RowKit Go.Proofs.YtdjdbjcapenjeaaW.PrintWords Go.Proofs.YtdjdbjcapenjeaaW.PrintLast Go.Proofs.YtdjdbjcapenjeaaW.PrintMore
set_option linter.unusedVariables false
set_option linter.unusedSimpArgs false
/-- May a call be? -/
def mbV (c : S30) : Bool :=
  if c.f2.f0 < 1 then false else if c.f2.f0 > 5 then false else if c.f5 < 0 then false
  else if c.f6 = -1 then (if c.f3 = 0 then decide (c.f4.length = 0) else false)
  else if c.f6 ≤ c.f5 then false
  else if (0 < c.f4.length) ∧ ¬ (c.f2.f0 = 1 ∧ c.f3 = 1) then false
  else if c.f3 = 1 then true
  else if c.f3 = 2 then decide (c.f2.f0 = 1 ∨ c.f2.f0 = 3)
  else if c.f3 = 3 then decide (c.f2.f0 = 4)
  else if c.f3 = 4 then (if c.f2.f0 = 2 then true else if c.f2.f0 = 4 then !c.f2.f5 else false)
  else false
theorem MayBe_f (c : S30) : shardref14_MayBe.f 5 c.f0 c.f1 c.f2.f0 c.f2.f1 c.f2.f2 c.f2.f3 c.f2.f4 c.f2.f5 c.f2.f6 c.f3 c.f4 c.f5 c.f6 = some (mbV c) := by
  unfold shardref14_MayBe.f mbV
  by_cases h1 : c.f2.f0 < 1
  · rw [if_pos h1, if_pos h1]; rfl
  rw [if_neg h1, if_neg h1]
  by_cases h2 : c.f2.f0 > 5
  · rw [if_pos h2, if_pos h2]; rfl
  rw [if_neg h2, if_neg h2]
  by_cases h3 : c.f5 < 0
  · rw [if_pos h3]; simp only [shardref14_MayBe.j0, decide_eq_true h3, if_true]
  rw [if_neg h3]
  simp only [shardref14_MayBe.j0, decide_eq_false h3, shardref14_Known.f, Option.bind_some]
  rw [if_neg (by decide)]
  by_cases h4 : c.f6 = -1
  · rw [if_pos h4, if_neg (by simp [h4])]
    by_cases h5 : c.f3 = 0
    · rw [if_pos h5, if_pos h5]
      congr 1
      by_cases h6 : c.f4.length = 0
      · simp [h6]
      · simp [h6]
    · rw [if_neg h5, if_neg h5]
  rw [if_neg h4, if_pos (by simp [h4])]
  by_cases h5 : c.f6 ≤ c.f5
  · rw [if_pos h5, if_pos h5]
  rw [if_neg h5, if_neg h5]
  by_cases h6 : 0 < c.f4.length
  · rw [if_pos (by omega)]
    by_cases h7 : c.f2.f0 = 1
    · rw [if_pos h7]
      by_cases h8 : c.f3 = 1
      · rw [if_neg (fun h => h.2 ⟨h7, h8⟩), if_pos h8]
        simp [shardref14_MayBe.j1, h8]
      · rw [if_pos ⟨h6, fun h => h8 h.2⟩]
        simp [shardref14_MayBe.j1, h8]
    · rw [if_neg h7, if_pos ⟨h6, fun h => h7 h.1⟩]
      simp [shardref14_MayBe.j1]
  rw [if_neg (by omega), if_neg (fun h => h6 h.1)]
  simp only [shardref14_MayBe.j1]
  rw [if_neg (by decide)]
  by_cases a1 : c.f3 = 1
  · rw [if_pos a1, if_pos a1]
  rw [if_neg a1, if_neg a1]
  by_cases a2 : c.f3 = 2
  · rw [if_pos a2, if_pos a2]
    by_cases b1 : c.f2.f0 = 1
    · rw [if_pos b1]; simp [b1]
    · rw [if_neg b1]
      by_cases b3 : c.f2.f0 = 3 <;> simp [b1, b3]
  rw [if_neg a2, if_neg a2]
  by_cases a3 : c.f3 = 3
  · rw [if_pos a3, if_pos a3]; rfl
  rw [if_neg a3, if_neg a3]
  by_cases a4 : c.f3 = 4
  · rw [if_pos a4, if_pos a4]
    by_cases b1 : c.f2.f0 = 2
    · rw [if_pos b1, if_pos b1]
    · rw [if_neg b1, if_neg b1]
      by_cases b2 : c.f2.f0 = 4
      · rw [if_pos b2, if_pos b2]
      · rw [if_neg b2, if_neg b2]
  rw [if_neg a4, if_neg a4]
/-- Which statuses a request of this kind may have had. -/
def stL (k : Int) : List Int := if k = 1 ∨ k = 3 then [1, 2] else if k = 2 then [1, 4] else if k = 4 then [1, 3, 4] else [1]
theorem statuses_f (k : Nat) (a : Int) : linear_statuses.f (k + 1) a = some (stL a) := by
  unfold linear_statuses.f stL
  by_cases h1 : a = 1
  · rw [if_pos h1, if_pos (.inl h1)]; simp [linear_statuses.j0, h1]
  · rw [if_neg h1]
    by_cases h3 : a = 3
    · rw [if_pos (.inr h3)]; simp [linear_statuses.j0, h3]
    · rw [if_neg (by omega)]
      simp only [linear_statuses.j0]
      rw [if_neg (by simp [h3])]
      by_cases h2 : a = 2
      · rw [if_pos h2, if_pos h2]
      · rw [if_neg h2, if_neg h2]
        by_cases h4 : a = 4
        · rw [if_pos h4, if_pos h4]
        · rw [if_neg h4, if_neg h4]
theorem index_l (l : List Int) (s : Int) (hn : l.length < 1000) : ∀ (d k : Nat) (i : Int), 0 ≤ i → (l.length : Int) - i = d → d < k → ∃ r, api_Status_59.l0 k l s (l.length : Int) i = some r ∧ (0 ≤ r ↔ s ∈ l.drop i.toNat) := by
  intro d
  induction d with
  | zero =>
    intro k i h0 hd hk
    obtain ⟨k, rfl⟩ : ∃ m, k = m + 1 := ⟨k - 1, by omega⟩
    refine ⟨-1, by simp only [api_Status_59.l0]; rw [if_neg (by omega)], ?_⟩
    rw [List.drop_of_length_le (by omega)]
    simp
  | succ d ih =>
    intro k i h0 hd hk
    obtain ⟨k, rfl⟩ : ∃ m, k = m + 1 := ⟨k - 1, by omega⟩
    have h1 : i.toNat < l.length := by omega
    simp only [api_Status_59.l0]
    rw [if_pos (by omega), if_pos h0, if_pos (by omega), rd_get l i h1]
    by_cases e : s = l[i.toNat]
    · rw [if_pos e]
      refine ⟨i, rfl, ⟨fun _ => ?_, fun _ => h0⟩⟩
      rw [List.drop_eq_getElem_cons h1, e]
      exact List.mem_cons_self
    · rw [if_neg e, show wrap64 (i + 1) = i + 1 from by unfold wrap64; omega]
      obtain ⟨r, hr, hm⟩ := ih k (i + 1) (by omega) (by omega) (by omega)
      refine ⟨r, hr, ?_⟩
      rw [hm, List.drop_eq_getElem_cons h1, List.mem_cons, show (i + 1).toNat = i.toNat + 1 from by omega]
      exact ⟨fun h => .inr h, fun h => h.resolve_left e⟩
theorem contains_f (k : Nat) (l : List Int) (s : Int) (hn : l.length < 1000) (hk : l.length < k) : api_Status_48.f k l s = some (decide (s ∈ l)) := by
  obtain ⟨r, hr, hm⟩ := index_l l s hn l.length k 0 (Int.le_refl 0) (by omega) hk
  unfold api_Status_48.f api_Status_59.f
  rw [hr, Option.bind_some]
  simp only [List.drop_zero, Int.toNat_zero] at hm
  by_cases h : s ∈ l
  · rw [decide_eq_true h, decide_eq_true (show r ≥ 0 from hm.mpr h)]
  · rw [decide_eq_false h, decide_eq_false (fun h2 => h (hm.mp h2))]
theorem stL_len (k : Int) : (stL k).length ≤ 3 := by unfold stL; split <;> (try split) <;> (try split) <;> simp
theorem mayBe_f (c : S30) : linear_mayBe.f 9 c.f0 c.f1 c.f2.f0 c.f2.f1 c.f2.f2 c.f2.f3 c.f2.f4 c.f2.f5 c.f2.f6 c.f3 c.f4 c.f5 c.f6 = some (mbV c) := by
  unfold linear_mayBe.f mbV
  by_cases h1 : c.f2.f0 < 1
  · rw [if_pos h1, if_pos h1]; rfl
  rw [if_neg h1, if_neg h1]
  by_cases h2 : c.f2.f0 > 5
  · rw [if_pos h2, if_pos h2]; rfl
  rw [if_neg h2, if_neg h2]
  by_cases h3 : c.f5 < 0
  · rw [if_pos h3]; simp only [linear_mayBe.j0, decide_eq_true h3, if_true]
  rw [if_neg h3]
  simp only [linear_mayBe.j0, decide_eq_false h3, linear_known.f, Option.bind_some]
  rw [if_neg (by decide)]
  by_cases h4 : c.f6 = -1
  · rw [if_pos h4, if_neg (by simp [h4])]
    by_cases h5 : c.f3 = 0
    · rw [if_pos h5, if_pos h5]
      congr 1
      by_cases h6 : c.f4.length = 0
      · simp [h6]
      · simp [h6]
    · rw [if_neg h5, if_neg h5]
  rw [if_neg h4, if_pos (by simp [h4])]
  by_cases h5 : c.f6 ≤ c.f5
  · rw [if_pos h5, if_pos h5]
  rw [if_neg h5, if_neg h5, statuses_f, Option.bind_some, contains_f _ _ _ (by have := stL_len c.f2.f0; omega) (by have := stL_len c.f2.f0; omega), Option.bind_some]
  by_cases hk1 : c.f2.f0 = 1 <;> by_cases hk2 : c.f2.f0 = 2 <;> by_cases hk3 : c.f2.f0 = 3 <;> by_cases hk4 : c.f2.f0 = 4 <;> by_cases hs1 : c.f3 = 1 <;> by_cases hs2 : c.f3 = 2 <;> by_cases hs3 : c.f3 = 3 <;> by_cases hs4 : c.f3 = 4 <;> (first | omega | (by_cases hl : c.f4.length = 0 <;> (have hl2 : (0 < c.f4.length) = ¬ (c.f4.length = 0) := propext ⟨fun h => by omega, fun h => by omega⟩) <;> cases hh : c.f2.f5 <;> simp [stL, *]))
/-! ### Bytes -/
def isB (l : List Int) : Prop := ∀ x ∈ l, 0 ≤ x ∧ x ≤ 255
theorem toNats_inj : ∀ (l m : List Int), isB l → isB m → (l.map fun n => UInt8.ofNat n.toNat) = (m.map fun n => UInt8.ofNat n.toNat) → l = m
  | [], [], _, _, _ => rfl
  | [], _ :: _, _, _, h => by simp at h
  | _ :: _, [], _, _, h => by simp at h
  | x :: l, y :: m, hl, hm, h => by
    simp only [List.map_cons, List.cons.injEq] at h
    have hx := hl x List.mem_cons_self
    have hy := hm y List.mem_cons_self
    have e : x = y := by
      have h2 := congrArg UInt8.toNat h.1
      simp only [UInt8.toNat_ofNat'] at h2
      omega
    rw [e, toNats_inj l m (fun z hz => hl z (List.mem_cons_of_mem _ hz)) (fun z hz => hm z (List.mem_cons_of_mem _ hz)) h.2]
theorem eqB_eq (l m : List Int) (hl : isB l) (hm : isB m) : eqB l m = decide (l = m) := by
  unfold eqB
  by_cases e : l = m
  · rw [e]; simp
  · rw [decide_eq_false e]
    have hne : ¬ (strOfNums l).toList = (strOfNums m).toList := fun h => e (toNats_inj l m hl hm (by
      have h1 : (strOfNums l).data.toList = (strOfNums m).data.toList := by
        rw [← ByteArray.toList_eq, ← ByteArray.toList_eq, h]
      exact h1))
    simpa using hne
/-! ### The two plays -/
def PlayV (c : S30) (h : Bool) (l : List Int) : Bool × Bool × List Int :=
  if c.f6 = -1 then (true, (answerV c.f2 h l).2.1, (answerV c.f2 h l).2.2)
  else if c.f3 = 4 then (!h && ((answerV c.f2 h l).1 == 1), h, l)
  else if c.f3 ≠ (answerV c.f2 h l).1 then (false, false, [])
  else if c.f2.f0 = 1 ∧ (answerV c.f2 h l).1 = 1 ∧ l ≠ c.f4 then (false, false, [])
  else (true, (answerV c.f2 h l).2.1, (answerV c.f2 h l).2.2)
def stepR (c : S30) (h : Bool) (l : List Int) : Bool × Bool × List Int :=
  if mbV c = false ∨ c.f2.f0 = 5 then (false, false, [])
  else if (PlayV c h l).1 = false then (false, false, [])
  else if (PlayV c h l).2.1 = false then (true, false, []) else (true, true, (PlayV c h l).2.2)
def stepP (c : S30) (h : Bool) (l : List Int) : Bool × Bool × List Int :=
  if mbV c = false ∨ c.f2.f0 = 5 then (false, false, [])
  else if (playV c h l).2 = false then (false, false, [])
  else if (playV c h l).1.1 = false then (true, false, []) else (true, true, (playV c h l).1.2)
theorem mb_facts (c : S30) (h : mbV c = true) : (c.f2.f0 = 1 ∨ c.f2.f0 = 2 ∨ c.f2.f0 = 3 ∨ c.f2.f0 = 4 ∨ c.f2.f0 = 5) ∧ (c.f6 = -1 ∨ (c.f6 ≠ -1 ∧ ((c.f3 = 1) ∨ (c.f3 = 2 ∧ (c.f2.f0 = 1 ∨ c.f2.f0 = 3)) ∨ (c.f3 = 3 ∧ c.f2.f0 = 4) ∨ (c.f3 = 4 ∧ (c.f2.f0 = 2 ∨ (c.f2.f0 = 4 ∧ c.f2.f5 = false)))))) := by
  unfold mbV at h
  by_cases h1 : c.f2.f0 < 1
  · simp [h1] at h
  by_cases h2 : c.f2.f0 > 5
  · simp [h1, h2] at h
  refine ⟨by omega, ?_⟩
  by_cases h3 : c.f5 < 0
  · simp [h1, h2, h3] at h
  by_cases h4 : c.f6 = -1
  · exact .inl h4
  refine .inr ⟨h4, ?_⟩
  rw [if_neg h1, if_neg h2, if_neg h3, if_neg h4] at h
  by_cases h5 : c.f6 ≤ c.f5
  · rw [if_pos h5] at h; cases h
  rw [if_neg h5] at h
  by_cases h6 : (0 < c.f4.length) ∧ ¬ (c.f2.f0 = 1 ∧ c.f3 = 1)
  · rw [if_pos h6] at h; cases h
  rw [if_neg h6] at h
  by_cases a1 : c.f3 = 1
  · exact .inl a1
  rw [if_neg a1] at h
  by_cases a2 : c.f3 = 2
  · rw [if_pos a2] at h; exact .inr (.inl ⟨a2, of_decide_eq_true h⟩)
  rw [if_neg a2] at h
  by_cases a3 : c.f3 = 3
  · rw [if_pos a3] at h; exact .inr (.inr (.inl ⟨a3, of_decide_eq_true h⟩))
  rw [if_neg a3] at h
  by_cases a4 : c.f3 = 4
  · rw [if_pos a4] at h
    refine .inr (.inr (.inr ⟨a4, ?_⟩))
    by_cases b1 : c.f2.f0 = 2
    · exact .inl b1
    rw [if_neg b1] at h
    by_cases b2 : c.f2.f0 = 4
    · rw [if_pos b2] at h; exact .inr ⟨b2, by simpa using h⟩
    rw [if_neg b2] at h; cases h
  rw [if_neg a4] at h; cases h
theorem step_eq (c : S30) (h : Bool) (l : List Int) (e1 : eqB l c.f4 = decide (l = c.f4)) (e2 : eqB l c.f2.f4 = decide (l = c.f2.f4)) : stepP c h l = stepR c h l := by
  by_cases hm : mbV c = false
  · simp [stepP, stepR, hm]
  have hm' : mbV c = true := by simpa using hm
  obtain ⟨hk, hs⟩ := mb_facts c hm'
  rcases hk with hk | hk | hk | hk | hk
  · rcases hs with hs | ⟨hs, hs2 | ⟨hs2, _⟩ | ⟨hs2, _⟩ | ⟨hs2, hs3⟩⟩ <;> by_cases q1 : l = c.f4 <;> cases h <;> simp [stepP, stepR, PlayV, playV, answerV, hm', e1, *] <;> (first | omega | simp_all)
  · rcases hs with hs | ⟨hs, hs2 | ⟨hs2, hs3⟩ | ⟨hs2, hs3⟩ | ⟨hs2, hs3⟩⟩ <;> cases h <;> simp [stepP, stepR, PlayV, playV, answerV, hm', *] <;> (first | omega | simp_all)
  · rcases hs with hs | ⟨hs, hs2 | ⟨hs2, hs3⟩ | ⟨hs2, hs3⟩ | ⟨hs2, hs3⟩⟩ <;> cases h <;> simp [stepP, stepR, PlayV, playV, answerV, hm', *] <;> (first | omega | simp_all)
  · rcases hs with hs | ⟨hs, hs2 | ⟨hs2, hs3⟩ | ⟨hs2, hs3⟩ | ⟨hs2, hs3⟩⟩ <;> by_cases q2 : l = c.f2.f4 <;> cases hh : c.f2.f5 <;> cases h <;> simp [stepP, stepR, PlayV, playV, answerV, expectedV, hm', e2, hh, *] <;> simp_all
  · simp [stepP, stepR, hk]
end Go.Proofs.Ytdjdbjcapenjeaa.P
