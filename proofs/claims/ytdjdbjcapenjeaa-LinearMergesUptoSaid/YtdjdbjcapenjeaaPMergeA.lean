/- The lines of a merge: what the program finds of them, and what the document asks. -/
import Derived.Test.YtdjdbjcapenjeaaN
import Derived.Test.YtdjdbjcapenjeaaQ
import Derived.Test.YtdjdbjcapenjeaaPObeys
set_option linter.unusedVariables false
namespace Go.Proofs.Ytdjdbjcapenjeaa.PMergeA
open Go Go.Proofs.Ytdjdbjcapenjeaa.Dx Go.Proofs.Ytdjdbjcapenjeaa.D Go.Proofs.Ytdjdbjcapenjeaa.M Go.Proofs.Ytdjdbjcapenjeaa.N Go.Proofs.Ytdjdbjcapenjeaa.Q Go.Proofs.Ytdjdbjcapenjeaa.Q.F37
theorem lst_append (cs : List D30) : ∀ (a b pre : List Int), lst cs pre (a ++ b) = (lst cs pre a && lst cs (pre ++ a) b)
  | [], b, pre => by rw [List.nil_append, lst, Bool.true_and, List.append_nil]
  | y :: a, b, pre => by rw [List.cons_append, lst, lst, lst_append cs a b, List.append_assoc, ← Bool.and_assoc]; rfl
/-- The counters tell what was there. -/
def HI (cs : List D30) (pre h : List Int) : Prop := h.length = cs.length ∧ ∀ y : Nat, y < cs.length → h.getD y 0 = bif pre.any (· == (y : Int)) then 1 else 0
/-- The map tells the keys of the orders ahead. -/
def EI (cs : List D30) (orders : List (List Int)) (n : Nat) (e : List (Int × Int)) : Prop := ∀ k, hasA e k = !((List.range' 0 n).all (noK cs orders k)) ∧ (hasA e k = true → lookA 0 e k < (n : Int))
theorem hasA_set {α : Type} (k : Int) (v : α) (key : Int) : ∀ es : List (Int × α), hasA (setA es k v) key = (hasA es key || k == key)
  | [] => by
    simp only [setA, hasA, Bool.false_or]
    cases e : k == key with
    | true => rw [beq_iff_eq] at e; rw [e, beq_self_eq_true]; rfl
    | false => rw [show (key == k) = false by rw [beq_eq_false_iff_ne] at e ⊢; exact fun h => e h.symm]; rfl
  | a :: es => by
    have ih := hasA_set k v key es
    simp only [setA]
    cases e1 : k == a.1 with
    | true =>
      rw [beq_iff_eq] at e1
      simp only [cond_true, hasA]
      rw [← e1]
      cases e : key == k with
      | true => rfl
      | false => rw [show (k == key) = false by rw [beq_eq_false_iff_ne] at e ⊢; exact fun h => e h.symm, Bool.or_false]
    | false =>
      simp only [cond_false, hasA]
      cases e2 : key == a.1 with
      | true => rfl
      | false => rw [cond_false, cond_false, ih]
theorem hasA_lnK (cs : List D30) (n k : Int) : ∀ (r : List Int) (e : List (Int × Int)), hasA (lnK cs n r e) k = (hasA e k || r.any fun y => ky cs y == k)
  | [], e => by rw [lnK, List.any_nil, Bool.or_false]
  | y :: r, e => by rw [lnK, hasA_lnK cs n k r, hasA_set, List.any_cons, Bool.or_assoc]
theorem lookA_lnK (cs : List D30) (n k : Int) : ∀ (r : List Int) (e : List (Int × Int)), lookA 0 (lnK cs n r e) k = bif r.any (fun y => ky cs y == k) then n else lookA 0 e k
  | [], e => rfl
  | y :: r, e => by
    rw [lnK, lookA_lnK cs n k r, PObeys.lookA_set, List.any_cons]
    cases r.any (fun y => ky cs y == k) <;> cases (ky cs y == k) <;> rfl
theorem okAt_r {cs : List D30} {y : Int} (h : okAt cs y = true) : 0 ≤ y ∧ y < cs.length := by
  unfold okAt at h
  simp only [Bool.and_eq_true, decide_eq_true_eq] at h
  exact h.1
theorem HI_seen {cs : List D30} {pre h : List Int} (hi : HI cs pre h) {y : Int} (hy : okAt cs y = true) : decide (h.getD y.toNat 0 > 0) = pre.any (· == y) := by
  obtain ⟨a, b⟩ := okAt_r hy
  rw [hi.2 y.toNat (by omega), show ((y.toNat : Nat) : Int) = y by omega]
  cases pre.any (· == y) <;> rfl
theorem HI_step {cs : List D30} {pre h : List Int} (hi : HI cs pre h) {y : Int} (hy : okAt cs y = true) (hp : pre.any (· == y) = false) : HI cs (pre ++ [y]) (h.set y.toNat (IntKind.i64.wrap (h.getD y.toNat 0 + 1))) := by
  obtain ⟨a, b⟩ := okAt_r hy
  have h0 := hi.2 y.toNat (by omega)
  rw [show ((y.toNat : Nat) : Int) = y by omega, hp, cond_false] at h0
  refine ⟨by rw [List.length_set]; exact hi.1, fun i hlt => ?_⟩
  rw [h0, show IntKind.i64.wrap (0 + 1) = 1 from rfl, List.any_append, List.any_cons, List.any_nil, Bool.or_false, List.getD_eq_getElem?_getD, List.getElem?_set]
  by_cases e : y.toNat = i
  · rw [if_pos e, if_pos (by rw [hi.1]; omega), show (y == (i : Int)) = true by rw [beq_iff_eq]; omega, Bool.or_true]; rfl
  · rw [if_neg e, show (y == (i : Int)) = false by rw [beq_eq_false_iff_ne]; omega, Bool.or_false, ← List.getD_eq_getElem?_getD]
    exact hi.2 i hlt
/-- Behind an order's first number. -/
theorem ln_more (cs : List D30) (n k0 : Int) : ∀ (r pre h : List Int) (e : List (Int × Int)), HI cs pre h → hasA e k0 = true → lookA 0 e k0 = n →
    lnOK cs n k0 r h e = (lst cs pre r && r.all fun y => ky cs y == k0)
  | [], pre, h, e, _, _, _ => rfl
  | y :: r, pre, h, e, hi, h1, h2 => by
    rw [lnOK, lst, List.all_cons]
    unfold elOK
    cases ho : okAt cs y with
    | false => simp
    | true =>
      rw [HI_seen hi ho]
      cases hp : pre.any (· == y) with
      | true => simp
      | false =>
        cases hk : (ky cs y == k0) with
        | false => simp [bne, hk]
        | true =>
          have hk' := hk
          rw [beq_iff_eq] at hk
          rw [hk, h1, h2, ln_more cs n k0 r _ _ _ (HI_step hi ho hp) (by rw [hasA_set, h1]; rfl) (by rw [PObeys.lookA_set, beq_self_eq_true]; rfl)]
          simp
theorem ln_HI (cs : List D30) : ∀ (r pre h : List Int), HI cs pre h → lst cs pre r = true → HI cs (pre ++ r) (lnH r h)
  | [], pre, h, hi, _ => by rw [List.append_nil]; exact hi
  | y :: r, pre, h, hi, hl => by
    rw [lst, Bool.and_eq_true, Bool.and_eq_true, Bool.not_eq_true'] at hl
    have := ln_HI cs r _ _ (HI_step hi hl.1.1 hl.1.2) hl.2
    rw [List.append_assoc] at this
    exact this
theorem all_getD {α : Type} (p : α → Bool) (d : α) (l : List α) : ∀ (m i : Nat), i + m = l.length → (List.range' i m).all (fun j => p (l.getD j d)) = (l.drop i).all p
  | 0, i, h => by rw [List.drop_eq_nil_of_le (by omega)]; rfl
  | m + 1, i, h => by rw [List.range'_succ, drop_cons (show i < l.length by omega) d, List.all_cons, List.all_cons, all_getD p d l m (i + 1) (by omega)]
theorem apO_eq (cs : List D30) (orders : List (List Int)) (n : Nat) : apO cs orders n = (orders.getD n []).all fun y => (ky cs y == ky cs ((orders.getD n []).getD 0 0)) && (List.range' 0 n).all (noK cs orders (ky cs y)) := by
  unfold apO
  rw [← List.drop_zero (l := orders.getD n []), ← all_getD _ 0 _ (orders.getD n []).length 0 (by omega), List.drop_zero]
  congr 1
  funext j
  unfold apE
  rw [bne, Bool.not_not]
theorem ln_eq (cs : List D30) (orders : List (List Int)) (n : Nat) (pre h : List Int) (e : List (Int × Int)) (hi : HI cs pre h) (he : EI cs orders n e) :
    lnOK cs n (ky cs ((orders.getD n []).getD 0 0)) (orders.getD n []) h e = (lst cs pre (orders.getD n []) && apO cs orders n) := by
  rw [apO_eq]
  generalize orders.getD n [] = o
  cases o with
  | nil => rfl
  | cons y r =>
    rw [List.getD_cons_zero, lnOK, lst, List.all_cons, beq_self_eq_true, Bool.true_and]
    obtain ⟨e1, e2⟩ := he (ky cs y)
    unfold elOK
    cases ho : okAt cs y with
    | false => simp
    | true =>
      rw [HI_seen hi ho]
      cases hp : pre.any (· == y) with
      | true => simp
      | false =>
        cases hA : (List.range' 0 n).all (noK cs orders (ky cs y)) with
        | false =>
          rw [hA, Bool.not_false] at e1
          have e3 := e2 e1
          rw [e1, cond_true, show (lookA 0 e (ky cs y) != (n : Int)) = true by rw [bne_iff_ne]; omega]
          simp
        | true =>
          rw [hA, Bool.not_true] at e1
          rw [e1, cond_false, ln_more cs n (ky cs y) r _ _ _ (HI_step hi ho hp) (by rw [hasA_set, beq_self_eq_true, Bool.or_true]) (by rw [PObeys.lookA_set, beq_self_eq_true]; rfl)]
          have : (r.all fun z => (ky cs z == ky cs y) && (List.range' 0 n).all (noK cs orders (ky cs z))) = r.all fun z => ky cs z == ky cs y := by
            congr 1
            funext z
            cases hz : (ky cs z == ky cs y) with
            | false => rfl
            | true => rw [beq_iff_eq] at hz; rw [hz, hA]; rfl
          rw [this]
          simp
theorem EI_step (cs : List D30) (orders : List (List Int)) (n : Nat) (e : List (Int × Int)) (he : EI cs orders n e) (ha : apO cs orders n = true) : EI cs orders (n + 1) (lnK cs n (orders.getD n []) e) := by
  intro k
  obtain ⟨e1, e2⟩ := he k
  have hk : ((orders.getD n []).any fun y => ky cs y == k) = !(noK cs orders k n) := by
    unfold noK
    rw [apO_eq] at ha
    revert ha
    generalize orders.getD n [] = o
    intro ha
    cases o with
    | nil => rfl
    | cons y r =>
      rw [List.getD_cons_zero, List.all_cons, Bool.and_eq_true] at ha
      rw [List.getD_cons_zero, Bool.not_not, List.length_cons, decide_eq_true (by omega), Bool.true_and, List.any_cons]
      cases hy : (ky cs y == k) with
      | true => rfl
      | false =>
        rw [Bool.false_or, ← Bool.not_eq_true, List.any_eq_true]
        rintro ⟨z, hz, hzk⟩
        have := List.all_eq_true.1 ha.2 z hz
        rw [Bool.and_eq_true, beq_iff_eq] at this
        rw [this.1, hy] at hzk
        cases hzk
  rw [hasA_lnK, lookA_lnK, hk, e1, List.range'_1_concat, List.all_append, List.all_cons, List.all_nil, Bool.and_true, Bool.not_and, Nat.zero_add]
  refine ⟨rfl, fun h => ?_⟩
  cases hn : noK cs orders k n with
  | false => rw [Bool.not_false, cond_true]; omega
  | true =>
    rw [hn, Bool.not_true, Bool.or_false, ← e1] at h
    have := e2 h
    rw [Bool.not_true, cond_false]; omega
theorem ls_eq (cs : List D30) (orders : List (List Int)) : ∀ (r : List (List Int)) (n : Nat) (pre h : List Int) (e : List (Int × Int)), orders.drop n = r → n + r.length = orders.length → HI cs pre h → EI cs orders n e →
    lsOK cs r n h e = (lst cs pre r.flatten && (List.range' n r.length).all (apO cs orders)) ∧ (lst cs pre r.flatten = true → HI cs (pre ++ r.flatten) (lsH r h))
  | [], n, pre, h, e, _, _, hi, _ => ⟨rfl, fun _ => by rw [List.flatten_nil, List.append_nil]; exact hi⟩
  | o :: r, n, pre, h, e, hr, hl, hi, he => by
    have hn : n < orders.length := by rw [List.length_cons] at hl; omega
    have hd := drop_cons hn []
    rw [hr, List.cons.injEq] at hd
    obtain ⟨d1, d2⟩ := hd
    subst d1
    rw [lsOK, ln_eq cs orders n pre h e hi he, List.flatten_cons, lst_append, List.length_cons, List.range'_succ, List.all_cons, lsH]
    constructor
    · cases h1 : lst cs pre (orders.getD n []) with
      | false => simp
      | true =>
        cases h2 : apO cs orders n with
        | false => simp
        | true =>
          have := (ls_eq cs orders r (n + 1) (pre ++ orders.getD n []) _ _ d2.symm (by rw [List.length_cons] at hl; omega) (ln_HI cs _ _ _ hi h1) (EI_step cs orders n e he h2)).1
          rw [Int.natCast_add, Int.natCast_one] at this
          rw [this]
          simp
    · intro h1
      rw [Bool.and_eq_true] at h1
      rw [← List.append_assoc]
      have key : ∀ (r : List (List Int)) (pre h : List Int), HI cs pre h → lst cs pre r.flatten = true → HI cs (pre ++ r.flatten) (lsH r h) := by
        intro r
        induction r with
        | nil => intro pre h hi _; rw [List.flatten_nil, List.append_nil]; exact hi
        | cons o r ih =>
          intro pre h hi hl
          rw [List.flatten_cons, lst_append, Bool.and_eq_true] at hl
          rw [List.flatten_cons, lsH, ← List.append_assoc]
          exact ih _ _ (ln_HI cs _ _ _ hi hl.1) hl.2
      exact key r _ _ (ln_HI cs _ _ _ hi h1.1) h1.2
theorem okL_eq (cs : List D30) (orders : List (List Int)) : N.F32.okL cs orders = ((lst cs [] orders.flatten && (List.range' 0 cs.length).all (D.F36.inOr cs orders.flatten)) && (List.range' 0 orders.length).all (apO cs orders)) := by
  unfold N.F32.okL
  have h0 : HI cs [] (List.replicate cs.length 0) := ⟨by simp, fun y hy => by simp [List.getD_eq_getElem?_getD, hy]⟩
  obtain ⟨a, b⟩ := ls_eq cs orders orders 0 [] (List.replicate cs.length 0) [] rfl (by omega) h0 (fun k => ⟨rfl, fun h => by cases h⟩)
  rw [Int.natCast_zero] at a
  rw [a]
  cases hl : lst cs [] orders.flatten with
  | false => simp
  | true =>
    have hi := b hl
    rw [List.nil_append] at hi
    have : (List.range' 0 cs.length).all (E.F18.inPl cs (lsH orders (List.replicate cs.length 0))) = (List.range' 0 cs.length).all (D.F36.inOr cs orders.flatten) := by
      rw [Bool.eq_iff_iff, List.all_eq_true, List.all_eq_true]
      have e : ∀ i ∈ List.range' 0 cs.length, E.F18.inPl cs (lsH orders (List.replicate cs.length 0)) i = D.F36.inOr cs orders.flatten i := fun i hm => by
        rw [List.mem_range'_1] at hm
        unfold E.F18.inPl D.F36.inOr
        rw [hi.2 i (by omega)]
        show (!(A.F45.val (cs.getD i d30) && !((cs.getD i d30).2.2.1.1 == 5)) || _) = _
        congr 1
        cases orders.flatten.any (· == (i : Int)) <;> rfl
      exact ⟨fun h i hm => by rw [← e i hm]; exact h i hm, fun h i hm => by rw [e i hm]; exact h i hm⟩
    rw [this, Bool.true_and, Bool.true_and, Bool.and_comm]
#print axioms okL_eq
end Go.Proofs.Ytdjdbjcapenjeaa.PMergeA
