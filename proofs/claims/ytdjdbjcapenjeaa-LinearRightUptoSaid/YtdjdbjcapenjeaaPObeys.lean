/- The program's Obeys and the document's are one. -/
import Derived.Test.YtdjdbjcapenjeaaE
import Derived.Test.YtdjdbjcapenjeaaG
import Derived.Laws.Strings
set_option linter.unusedVariables false
namespace Go.Proofs.Ytdjdbjcapenjeaa.PObeys
open Go Go.Proofs.Ytdjdbjcapenjeaa.Dx Go.Proofs.Ytdjdbjcapenjeaa.D
theorem mayBe_eq (c : D30) : C.F27.val c = B.F25.val c := by
  obtain ⟨w, q, ⟨k, ky, hi, v, o, h, lim, _⟩, s, val, b, e, _⟩ := c
  simp only [C.F27.val, B.F25.val, A.F41.val, A.F45.val]
  by_cases k1 : k < 1
  · simp [k1]
  by_cases k5 : k > 5
  · simp [k1, k5]
  have hk : k = 1 ∨ k = 2 ∨ k = 3 ∨ k = 4 ∨ k = 5 := by omega
  have hs : s = 1 ∨ s = 2 ∨ s = 3 ∨ s = 4 ∨ (s ≠ 1 ∧ s ≠ 2 ∧ s ≠ 3 ∧ s ≠ 4) := by omega
  have hl : decide ((val.length : Int) > 0) = !((val.length : Int) == 0) := by
    rw [Bool.eq_iff_iff, decide_eq_true_iff, Bool.not_eq_true', beq_eq_false_iff_ne]; omega
  rw [hl]
  generalize ((val.length : Int) == 0) = L
  generalize (e != -1) = E
  generalize decide (e ≤ b) = EB
  generalize decide (b < 0) = B0
  clear hl k1 k5
  rcases hs with rfl | rfl | rfl | rfl | ⟨h1, h2, h3, h4⟩
  case inr.inr.inr.inr =>
    have e1 : (s == 1) = false := by simpa using h1
    have e2 : (s == 2) = false := by simpa using h2
    have e3 : (s == 3) = false := by simpa using h3
    have e4 : (s == 4) = false := by simpa using h4
    have hF : C.F48.val (B.F49.val k) s = false := by
      have j1 : C.F59.ix s [1, 2] 0 = -1 := by simp only [C.F59.ix, e1, e2, cond_false]
      have j2 : C.F59.ix s [1, 4] 0 = -1 := by simp only [C.F59.ix, e1, e4, cond_false]
      have j3 : C.F59.ix s [1, 3, 4] 0 = -1 := by simp only [C.F59.ix, e1, e3, e4, cond_false]
      have j4 : C.F59.ix s [1] 0 = -1 := by simp only [C.F59.ix, e1, cond_false]
      rcases hk with rfl | rfl | rfl | rfl | rfl
      · show decide (C.F59.ix s [1, 2] 0 ≥ 0) = false; rw [j1]; rfl
      · show decide (C.F59.ix s [1, 4] 0 ≥ 0) = false; rw [j2]; rfl
      · show decide (C.F59.ix s [1, 2] 0 ≥ 0) = false; rw [j1]; rfl
      · show decide (C.F59.ix s [1, 3, 4] 0 ≥ 0) = false; rw [j3]; rfl
      · show decide (C.F59.ix s [1] 0 ≥ 0) = false; rw [j4]; rfl
    rw [hF, e1, e2, e3, e4]
    rcases hk with rfl | rfl | rfl | rfl | rfl <;> (cases L <;> cases E <;> cases EB <;> cases B0 <;> cases h <;> rfl)
  all_goals rcases hk with rfl | rfl | rfl | rfl | rfl <;> (cases L <;> cases E <;> cases EB <;> cases B0 <;> cases h <;> rfl)
/-- Numbers of bytes. -/
def BY (l : List Int) : Prop := ∀ b ∈ l, 0 ≤ b ∧ b ≤ 255
theorem strOf_toList (l : List Int) : (strOf l).toList = l.map fun n => UInt8.ofNat n.toNat := by
  rw [ByteArray.toList_eq]; rfl
theorem map_inj : ∀ (a b : List Int), BY a → BY b → (a.map fun n => UInt8.ofNat n.toNat) = (b.map fun n => UInt8.ofNat n.toNat) → a = b
  | [], [], _, _, _ => rfl
  | [], y :: b, _, _, h => by simp at h
  | x :: a, [], _, _, h => by simp at h
  | x :: a, y :: b, ha, hb, h => by
    simp only [List.map_cons, List.cons.injEq] at h
    obtain ⟨h1, h2⟩ := h
    have hx := ha x (List.mem_cons_self ..)
    have hy := hb y (List.mem_cons_self ..)
    have e := congrArg UInt8.toNat h1
    simp at e
    have : x = y := by omega
    rw [this, map_inj a b (fun z hz => ha z (List.mem_cons_of_mem _ hz)) (fun z hz => hb z (List.mem_cons_of_mem _ hz)) h2]
theorem eqB (a b : List Int) (ha : BY a) (hb : BY b) : B.F60.val a b = B.F47.val a b := by
  unfold B.F60.val B.F47.val
  rw [strOf_toList, strOf_toList, Bool.eq_iff_iff, beq_iff_eq, decide_eq_true_iff]
  exact ⟨map_inj a b ha hb, fun h => by rw [h]⟩
/-- A call's bytes are bytes. -/
def CB (c : D30) : Prop := BY c.2.2.2.2.1 ∧ BY c.2.2.1.2.2.2.1 ∧ BY c.2.2.1.2.2.2.2.1
theorem play_eq (c : D30) (x : D60) (hm : B.F25.val c = true) (h5 : (c.2.2.1.1 == 5) = false) (hc : CB c) (hx : BY x.2.1) :
    (B.F29.val c x).2 = (B.F26.val c x).1 ∧ ((B.F29.val c x).2 = true → (B.F29.val c x).1 = (B.F26.val c x).2) := by
  obtain ⟨w, q, ⟨k, ky, hi, v, o, h, lim, _⟩, s, val, b, e, _⟩ := c
  obtain ⟨xh, xv, _⟩ := x
  obtain ⟨b1, b2, b3⟩ := hc
  have q1 : B.F60.val xv val = B.F47.val xv val := eqB _ _ hx b1
  have q2 : B.F60.val xv o = B.F47.val xv o := eqB _ _ hx b3
  simp only [B.F29.val, B.F26.val, B.F50.val, B.F51.val, B.F46.val, A.F41.val, A.F45.val, q1, q2]
  simp only [B.F25.val, A.F45.val] at hm
  by_cases k1 : k < 1
  · simp [k1] at hm
  by_cases k5 : k > 5
  · simp [k1, k5] at hm
  have hk : k = 1 ∨ k = 2 ∨ k = 3 ∨ k = 4 := by have : k ≠ 5 := by simpa using h5
                                                omega
  have hs : s = 0 ∨ s = 1 ∨ s = 2 ∨ s = 3 ∨ s = 4 ∨ (s ≠ 0 ∧ s ≠ 1 ∧ s ≠ 2 ∧ s ≠ 3 ∧ s ≠ 4) := by omega
  have hw : (0 ≤ s ∧ s ≤ 4) → IntKind.i64.wrap s = s := fun h => w64 (by omega) (by omega)
  generalize B.F47.val xv val = V at *
  generalize B.F47.val xv o = O at *
  generalize ((val.length : Int) == 0) = L at *
  generalize decide ((val.length : Int) > 0) = L2 at *
  generalize (e != -1) = E at *
  generalize decide (e ≤ b) = EB at *
  generalize decide (b < 0) = B0 at *
  clear q1 q2 k1 k5 h5
  rcases hs with rfl | rfl | rfl | rfl | rfl | ⟨h0, h1, h2, h3, h4⟩
  case inr.inr.inr.inr.inr =>
    have e0 : (s == 0) = false := by simpa using h0
    have e1 : (s == 1) = false := by simpa using h1
    have e2 : (s == 2) = false := by simpa using h2
    have e3 : (s == 3) = false := by simpa using h3
    have e4 : (s == 4) = false := by simpa using h4
    rw [e0, e1, e2, e3, e4] at hm
    rcases hk with rfl | rfl | rfl | rfl <;> (cases L2 <;> cases E <;> cases EB <;> cases B0 <;> cases hm)
  all_goals
    rw [hw ⟨by decide, by decide⟩]
    rcases hk with rfl | rfl | rfl | rfl <;> cases E <;> cases EB <;> cases B0 <;> first
      | exact absurd hm Bool.false_ne_true
      | (cases L <;> cases L2 <;> first
        | exact absurd hm Bool.false_ne_true
        | (cases h <;> first
          | exact absurd hm Bool.false_ne_true
          | (cases V <;> cases O <;> cases xh <;> exact ⟨rfl, fun h => by first | rfl | exact absurd h Bool.false_ne_true⟩)))
theorem mayBe_end (c : D30) (hm : B.F25.val c = true) (hk : A.F45.val c = true) : 0 ≤ c.2.2.2.2.2.2.1 := by
  unfold B.F25.val at hm
  rw [hk] at hm
  by_cases h1 : c.snd.snd.fst.fst < 1
  · rw [decide_eq_true h1, cond_true] at hm; cases hm
  rw [decide_eq_false h1, cond_false] at hm
  by_cases h2 : c.snd.snd.fst.fst > 5
  · rw [decide_eq_true h2, cond_true] at hm; cases hm
  rw [decide_eq_false h2, cond_false] at hm
  by_cases h3 : c.snd.snd.snd.snd.snd.fst < 0
  · rw [decide_eq_true h3, cond_true] at hm; cases hm
  rw [decide_eq_false h3, cond_false, Bool.not_true, cond_false] at hm
  by_cases h4 : c.snd.snd.snd.snd.snd.snd.fst ≤ c.snd.snd.snd.snd.snd.fst
  · rw [decide_eq_true h4, cond_true] at hm; cases hm
  omega
def BX (x : D60) : Prop := BY x.2.1
theorem F26_BX (c : D30) (x : D60) (hc : CB c) (hx : BX x) : BX (B.F26.val c x).2 := by
  have hb : ∀ {α : Type} (p : α → Prop) (b : Bool) (u v : α), p u → p v → p (bif b then u else v) := fun p b u v h1 h2 => by cases b <;> assumption
  have h0 : BX d60 := fun b h => by cases h
  have h1 : BX (true, c.2.2.1.2.2.2.1, ()) := hc.2.1
  have h46 : BX (B.F46.val c.snd.snd.fst x).2 := by
    unfold B.F46.val
    repeat (first | exact h0 | exact h1 | exact hx | refine hb (fun y : Int × D60 => BX y.2) _ _ _ ?_ ?_)
  unfold B.F26.val
  repeat (first | exact h0 | exact h46 | exact hx | refine hb (fun y : Bool × D60 => BX y.2) _ _ _ ?_ ?_)
open G
theorem lk_BX (cs : List D30) (o : List Int) (cells : List D60) (key : Int) (hc : ∀ y ∈ cells, BX y) : ∀ (r : List Nat) (x : D60), BX x → BX (lk cs o cells key r x)
  | [], x, h => h
  | j :: r, x, h => by
    refine lk_BX cs o cells key hc r _ ?_
    cases (cat cs o j).2.2.1.2.1 == key with
    | false => exact h
    | true =>
      rw [cond_true, List.getD_eq_getElem?_getD]
      cases e : cells[j]? with
      | none => exact fun b h => by cases h
      | some y => exact hc y (List.mem_of_getElem? e)
theorem lk_app (cs : List D30) (o : List Int) (cells : List D60) (key : Int) : ∀ (r s : List Nat) (x : D60), lk cs o cells key (r ++ s) x = lk cs o cells key s (lk cs o cells key r x)
  | [], s, x => rfl
  | j :: r, s, x => by rw [List.cons_append, lk, lk, lk_app cs o cells key r s]
theorem lk_set (cs : List D30) (o : List Int) (cells : List D60) (key : Int) (i : Nat) (v : D60) : ∀ (r : List Nat) (x : D60), (∀ j ∈ r, j ≠ i) → lk cs o (cells.set i v) key r x = lk cs o cells key r x
  | [], x, _ => rfl
  | j :: r, x, h => by
    have hj : (cells.set i v).getD j d60 = cells.getD j d60 := by
      rw [List.getD_eq_getElem?_getD, List.getElem?_set, if_neg (fun e => h j (List.mem_cons_self ..) e.symm), List.getD_eq_getElem?_getD]
    rw [lk, lk, hj, lk_set cs o cells key i v r _ fun k hk => h k (List.mem_cons_of_mem _ hk)]
theorem lookA_set {α : Type} (d : α) (k : Int) (v : α) (key : Int) : ∀ es : List (Int × α), lookA d (setA es k v) key = bif k == key then v else lookA d es key
  | [] => by
    simp only [setA, lookA]
    cases e : k == key with
    | true => rw [beq_iff_eq] at e; rw [e, beq_self_eq_true]
    | false =>
      rw [show (key == k) = false by rw [beq_eq_false_iff_ne] at e ⊢; exact fun h => e h.symm]
  | a :: es => by
    have ih := lookA_set d k v key es
    simp only [setA]
    cases e1 : k == a.1 with
    | true =>
      rw [beq_iff_eq] at e1
      simp only [cond_true, lookA]
      cases e : k == key with
      | true => rw [beq_iff_eq] at e; rw [e, beq_self_eq_true]; rfl
      | false =>
        have e2 : (key == k) = false := by rw [beq_eq_false_iff_ne] at e ⊢; exact fun h => e h.symm
        rw [e2, cond_false, ← e1, e2]; rfl
    | false =>
      simp only [cond_false, lookA]
      cases e2 : key == a.1 with
      | true =>
        rw [beq_iff_eq] at e2
        rw [← e2] at e1
        rw [e1]; rfl
      | false => rw [cond_false, ih]; rfl
theorem chain (cs : List D30) (o : List Int) (hm : ∀ y ∈ o, okAt cs y = true) (hb : ∀ c ∈ cs, B.F25.val c = true) (hB : ∀ c ∈ cs, CB c) : ∀ (m i : Nat) (last : Int) (es : List (Int × D60)) (cells : List D60), i + m = o.length → cells.length = o.length →
    (∀ e : Int, 0 ≤ e → (e < last ↔ ∃ j, j < i ∧ e < (cat cs o j).2.2.2.2.2.1)) → (∀ key, lookA d60 es key = lk cs o cells key (List.range' 0 i) d60) → (∀ y ∈ cells, BX y) →
    E.F18.rn cs (o.drop i) last es = ((List.range' i m).all (ordOK cs o) && rr cs o (List.range' i m) cells)
  | 0, i, last, es, cells, h, _, _, _, _ => by
    rw [List.drop_eq_nil_of_le (by omega)]; rfl
  | m + 1, i, last, es, cells, h, hl, h1, h2, h3 => by
    have hi : i < o.length := by omega
    rw [drop_cons hi 0, List.range'_succ, E.F18.rn, List.all_cons, rr]
    show (bif A.F41.val (cat cs o i) && decide ((cat cs o i).2.2.2.2.2.2.1 < last) then false else
      bif !(B.F29.val (cat cs o i) (lookA d60 es (cat cs o i).2.2.1.2.1)).2 then false else
      E.F18.rn cs (o.drop (i + 1)) (bif decide ((cat cs o i).2.2.2.2.2.1 > last) then (cat cs o i).2.2.2.2.2.1 else last) (setA es (cat cs o i).2.2.1.2.1 (B.F29.val (cat cs o i) (lookA d60 es (cat cs o i).2.2.1.2.1)).1)) = _
    have hok := hm _ (C.F9.getD_mem hi 0)
    have hin : cat cs o i ∈ cs := by
      unfold okAt at hok
      simp only [Bool.and_eq_true, decide_eq_true_eq] at hok
      exact C.F9.getD_mem (by omega) d30
    have hk5 : ((cat cs o i).2.2.1.1 == 5) = false := by
      unfold okAt at hok
      rw [Bool.and_eq_true, Bool.not_eq_true'] at hok
      exact hok.2
    have hbe := hb _ hin
    have hBe := hB _ hin
    have e1 : (A.F41.val (cat cs o i) && decide ((cat cs o i).2.2.2.2.2.2.1 < last)) = !ordOK cs o i := by
      have hF : A.F41.val (cat cs o i) = A.F45.val (cat cs o i) := rfl
      unfold ordOK
      cases hkn : A.F45.val (cat cs o i) with
      | false =>
        rw [hF, hkn, Bool.false_and]
        have : ((List.range' 0 i).all fun j => !A.F42.val (cat cs o i) (cat cs o j)) = true := by
          rw [List.all_eq_true]
          intro j _
          unfold A.F42.val
          rw [hkn]; rfl
        rw [this]; rfl
      | true =>
        have h0 := mayBe_end _ hbe hkn
        rw [hF, hkn, Bool.true_and, Bool.eq_iff_iff, decide_eq_true_iff, h1 _ h0, Bool.not_eq_true', ← Bool.not_eq_true, List.all_eq_true]
        constructor
        · rintro ⟨j, hj, he⟩ hall
          have := hall j (by rw [List.mem_range'_1]; omega)
          unfold A.F42.val at this
          rw [hkn, cond_true, decide_eq_true (show (cat cs o i).snd.snd.snd.snd.snd.snd.fst < (cat cs o j).snd.snd.snd.snd.snd.fst from he)] at this
          cases this
        · intro hn
          apply Classical.byContradiction
          intro hne
          refine hn fun j hj => ?_
          rw [List.mem_range'_1] at hj
          unfold A.F42.val
          rw [hkn, cond_true, decide_eq_false (fun he => hne ⟨j, by omega, he⟩)]; rfl
    have hx : BX (lk cs o cells (cat cs o i).2.2.1.2.1 (List.range' 0 i) d60) := lk_BX cs o cells _ h3 _ _ (fun b h => by cases h)
    rw [e1, h2]
    obtain ⟨p1, p2⟩ := play_eq (cat cs o i) _ hbe hk5 hBe hx
    rw [p1]
    cases hor : ordOK cs o i with
    | false => rfl
    | true =>
      rw [Bool.not_true, cond_false, Bool.true_and]
      cases hpl : (B.F26.val (cat cs o i) (lk cs o cells (cat cs o i).2.2.1.2.1 (List.range' 0 i) d60)).1 with
      | false => simp
      | true =>
        rw [Bool.not_true, cond_false, cond_false]
        rw [p1] at p2
        rw [p2 hpl]
        refine chain cs o hm hb hB m (i + 1) _ _ _ (by omega) (by rw [List.length_set]; exact hl) (fun e he => ?_) (fun key => ?_) (fun y hy => ?_)
        · have hh := h1 e he
          have key : e < (bif decide ((cat cs o i).2.2.2.2.2.1 > last) then (cat cs o i).2.2.2.2.2.1 else last) ↔ e < (cat cs o i).2.2.2.2.2.1 ∨ e < last := by
            by_cases hg : (cat cs o i).2.2.2.2.2.1 > last
            · rw [decide_eq_true hg, cond_true]; omega
            · rw [decide_eq_false hg, cond_false]; omega
          rw [key, hh]
          constructor
          · rintro (h | ⟨j, hj, hje⟩)
            · exact ⟨i, by omega, h⟩
            · exact ⟨j, by omega, hje⟩
          · rintro ⟨j, hj, hje⟩
            by_cases hji : j = i
            · subst hji; exact .inl hje
            · exact .inr ⟨j, by omega, hje⟩
        · rw [lookA_set, h2, show List.range' 0 (i + 1) = List.range' 0 i ++ [i] by rw [List.range'_1_concat, Nat.zero_add], lk_app, lk_set cs o cells key i _ (List.range' 0 i) d60 (fun j hj => by rw [List.mem_range'_1] at hj; omega), lk, lk]
          have hg : (cells.set i (B.F26.val (cat cs o i) (lk cs o cells (cat cs o i).2.2.1.2.1 (List.range' 0 i) d60)).2).getD i d60 = (B.F26.val (cat cs o i) (lk cs o cells (cat cs o i).2.2.1.2.1 (List.range' 0 i) d60)).2 := by
            rw [List.getD_eq_getElem?_getD, List.getElem?_set, if_pos rfl, if_pos (by omega)]; rfl
          rw [hg]
        · rcases List.mem_or_eq_of_mem_set hy with hy | rfl
          · exact h3 y hy
          · exact F26_BX _ _ hBe hx
theorem allMayBe_eq (cs : List D30) : C.F31.val cs = cs.all B.F25.val := by
  unfold C.F31.val
  rw [List.not_any_eq_all_not]
  congr 1
  funext c
  show (!(!C.F27.val c)) = _
  rw [Bool.not_not, mayBe_eq]
theorem obeys_eq (cs : List D30) (o : List Int) (hB : ∀ c ∈ cs, CB c) : E.F18.val cs o = G.F19.val cs o := by
  unfold E.F18.val G.F19.val
  rw [allMayBe_eq]
  cases h1 : cs.all B.F25.val with
  | false => rfl
  | true =>
    cases h2 : lst cs [] o with
    | false => rfl
    | true =>
      rw [Bool.true_and, Bool.true_and]
      have := chain cs o (fun y hy => lst_in o [] h2 y hy) (List.all_eq_true.1 h1) hB o.length 0 (-1) [] (List.replicate o.length d60) (by omega) (by simp) (fun e he => ⟨fun h => by omega, fun ⟨j, hj, _⟩ => by omega⟩) (fun key => rfl) (fun y hy => by rw [List.eq_of_mem_replicate hy]; exact fun b h => by cases h)
      rw [List.drop_zero] at this
      rw [this, Bool.true_and, Bool.true_and]
#print axioms obeys_eq
end Go.Proofs.Ytdjdbjcapenjeaa.PObeys
