/- The steps of a merge: the program's and the document's are one. -/
import Derived.Test.YtdjdbjcapenjeaaO
import Derived.Test.YtdjdbjcapenjeaaR
import Derived.Test.YtdjdbjcapenjeaaPMergeA
set_option linter.unusedVariables false
namespace Go.Proofs.Ytdjdbjcapenjeaa.PMergeB
open Go Go.Proofs.Ytdjdbjcapenjeaa.Dx Go.Proofs.Ytdjdbjcapenjeaa.D Go.Proofs.Ytdjdbjcapenjeaa.M Go.Proofs.Ytdjdbjcapenjeaa.N Go.Proofs.Ytdjdbjcapenjeaa.O.F14 Go.Proofs.Ytdjdbjcapenjeaa.R.F15
/-- What is left of the lines. -/
def rem (all : List D72) : List Int := (all.map fun l => l.1.drop l.2.1.toNat).flatten
theorem mn_app (cs : List D30) : ∀ (a b : List Int) (m : Int), mn cs (a ++ b) m = mn cs b (mn cs a m)
  | [], b, m => rfl
  | y :: a, b, m => by rw [List.cons_append, mn, mn, mn_app cs a b]
theorem mnA_rem (cs : List D30) : ∀ (all : List D72) (m : Int), mnA cs all m = mn cs (rem all) m
  | [], m => rfl
  | l :: r, m => by
    rw [mnA, mnA_rem cs r, show rem (l :: r) = l.1.drop l.2.1.toNat ++ rem r from rfl, mn_app]
/-- Does it end ahead of b? -/
theorem mn_ok (cs : List D30) (b : Int) (hk : ∀ y : Int, A.F45.val (cs.getD y.toNat d30) = true → 0 ≤ (cs.getD y.toNat d30).2.2.2.2.2.2.1) : ∀ (l : List Int) (m : Int), -1 ≤ m →
    (decide (mn cs l m ≥ 0) && decide (b > mn cs l m)) = ((decide (m ≥ 0) && decide (b > m)) || l.any fun y => A.F45.val (cs.getD y.toNat d30) && decide ((cs.getD y.toNat d30).2.2.2.2.2.2.1 < b))
  | [], m, _ => by rw [mn, List.any_nil, Bool.or_false]
  | y :: r, m, hm => by
    have h0 := hk y
    rw [mn, List.any_cons]
    change A.F41.val (cs.getD y.toNat d30) = true → _ at h0
    show _ = ((decide (m ≥ 0) && decide (b > m)) || ((A.F41.val (cs.getD y.toNat d30) && _) || _))
    cases hx : A.F41.val (cs.getD y.toNat d30) with
    | false => rw [cond_false, mn_ok cs b hk r m hm, Bool.false_and, Bool.false_or]
    | true =>
      have h0 := h0 hx
      rw [cond_true, Bool.true_and, ← Bool.or_assoc]
      generalize (cs.getD y.toNat d30).2.2.2.2.2.2.1 = e at h0 ⊢
      by_cases h1 : m < 0
      · rw [decide_eq_true h1, cond_true, mn_ok cs b hk r e (by omega), decide_eq_true (show e ≥ 0 by omega), decide_eq_false (show ¬ m ≥ 0 by omega)]
        simp
      · rw [decide_eq_false h1, cond_false]
        by_cases h2 : e < m
        · rw [decide_eq_true h2, cond_true, mn_ok cs b hk r e (by omega), decide_eq_true (show e ≥ 0 by omega), decide_eq_true (show m ≥ 0 by omega), Bool.true_and, Bool.true_and]
          congr 1
          by_cases h3 : e < b
          · rw [decide_eq_true h3, Bool.or_true]
          · rw [decide_eq_false h3, decide_eq_false (show ¬ b > m by omega)]; rfl
        · rw [decide_eq_false h2, cond_false, mn_ok cs b hk r m hm, decide_eq_true (show m ≥ 0 by omega), Bool.true_and]
          congr 1
          by_cases h3 : e < b
          · rw [decide_eq_true (show b > m by omega), decide_eq_true h3]; rfl
          · rw [decide_eq_false h3, Bool.or_false]
theorem frE_eq (cs : List D30) (hk : ∀ y : Int, A.F45.val (cs.getD y.toNat d30) = true → 0 ≤ (cs.getD y.toNat d30).2.2.2.2.2.2.1) (all : List D72) (i : Int) :
    (decide (mnA cs all (-1) ≥ 0) && decide ((cs.getD i.toNat d30).2.2.2.2.2.1 > mnA cs all (-1))) = !(frE cs (rem all) i) := by
  rw [mnA_rem, mn_ok cs _ hk _ _ (Int.le_refl _)]
  show (_ || _) = !((rem all).all _)
  rw [show decide ((-1 : Int) ≥ 0) = false from rfl, Bool.false_and, Bool.false_or, List.not_all_eq_any_not]
  congr 1
  funext y
  rw [Bool.not_not]
  unfold A.F42.val
  cases A.F45.val (cs.getD y.toNat d30) <;> rfl
theorem disj_app {a b : List Int} (h : (a ++ b).Nodup) {x : Int} (h1 : x ∈ a) : ¬ x ∈ b := fun h2 => (List.nodup_append.1 h).2.2 x h1 x h2 rfl
theorem rem_sub : ∀ (all : List D72) (y : Int), y ∈ rem all → y ∈ (all.map (·.1)).flatten
  | l :: r, y, h => by
    rw [rem, List.map_cons, List.flatten_cons, List.mem_append] at h
    rw [List.map_cons, List.flatten_cons, List.mem_append]
    exact h.imp List.mem_of_mem_drop (rem_sub r y)
theorem rem_in : ∀ (all : List D72), ((all.map (·.1)).flatten).Nodup → ∀ l ∈ all, ∀ y ∈ l.1, y ∈ rem all → y ∈ l.1.drop l.2.1.toNat
  | q :: r, hn, l, hl, y, hy, h => by
    rw [List.map_cons, List.flatten_cons] at hn
    rw [rem, List.map_cons, List.flatten_cons, List.mem_append] at h
    rcases List.mem_cons.1 hl with rfl | hl
    · rcases h with h | h
      · exact h
      · exact absurd (rem_sub r y h) (disj_app hn hy)
    · rcases h with h | h
      · exact absurd (List.mem_flatten.2 ⟨_, List.mem_map_of_mem hl, hy⟩) (disj_app hn (List.mem_of_mem_drop h))
      · exact rem_in r (List.nodup_append.1 hn).2.1 l hl y hy h
theorem rem_mem : ∀ (all : List D72), ∀ l ∈ all, ∀ y ∈ l.1.drop l.2.1.toNat, y ∈ rem all
  | q :: r, l, hl, y, hy => by
    rw [rem, List.map_cons, List.flatten_cons, List.mem_append]
    rcases List.mem_cons.1 hl with rfl | hl
    · exact .inl hy
    · exact .inr (rem_mem r l hl y hy)
theorem line_nodup : ∀ (all : List D72), ((all.map (·.1)).flatten).Nodup → ∀ l ∈ all, l.1.Nodup
  | q :: r, hn, l, hl => by
    rw [List.map_cons, List.flatten_cons] at hn
    rcases List.mem_cons.1 hl with rfl | hl
    · exact (List.nodup_append.1 hn).1
    · exact line_nodup r (List.nodup_append.1 hn).2.1 l hl
theorem rem_nodup : ∀ (all : List D72), ((all.map (·.1)).flatten).Nodup → (rem all).Nodup
  | [], _ => List.nodup_nil
  | q :: r, hn => by
    rw [List.map_cons, List.flatten_cons] at hn
    obtain ⟨h1, h2, h3⟩ := List.nodup_append.1 hn
    rw [rem, List.map_cons, List.flatten_cons]
    exact List.nodup_append.2 ⟨h1.sublist (List.drop_sublist ..), rem_nodup r h2, fun a ha b hb => h3 a (List.mem_of_mem_drop ha) b (rem_sub r b hb)⟩
theorem any_mem (l : List Int) (x : Int) : l.any (fun y => y == x) = decide (x ∈ l) := by
  rw [Bool.eq_iff_iff, List.any_eq_true, decide_eq_true_iff]
  exact ⟨fun ⟨y, h1, h2⟩ => by rw [beq_iff_eq] at h2; rw [← h2]; exact h1, fun h => ⟨x, h, beq_self_eq_true x⟩⟩
theorem fsT_skip (left : List Int) (k : Int) : ∀ (a b : List Int), (∀ x ∈ a, ¬ x ∈ left) → fsT left k (a ++ b) = fsT left k b
  | [], b, _ => rfl
  | x :: a, b, h => by
    rw [List.cons_append, fsT, any_mem, decide_eq_false (h x (List.mem_cons_self ..)), cond_false]
    exact fsT_skip left k a b fun y hy => h y (List.mem_cons_of_mem _ hy)
theorem fsT_line (all : List D72) (hn : ((all.map (·.1)).flatten).Nodup) (l : D72) (hl : l ∈ all) (h0 : 0 ≤ l.2.1) (h1 : l.2.1 ≤ l.1.length) :
    fsT (rem all) (-1) l.1 = bif l.2.1 == (l.1.length : Int) then -1 else hd l := by
  have hs : ∀ x ∈ l.1.take l.2.1.toNat, ¬ x ∈ rem all := fun x hx hr => by
    have h2 := rem_in all hn l hl x (List.mem_of_mem_take hx) hr
    have h3 := line_nodup all hn l hl
    rw [← List.take_append_drop l.2.1.toNat l.1] at h3
    exact disj_app h3 hx h2
  have := fsT_skip (rem all) (-1) _ (l.1.drop l.2.1.toNat) hs
  rw [List.take_append_drop] at this
  rw [this]
  by_cases he : l.2.1 = l.1.length
  · rw [List.drop_eq_nil_of_le (by omega), show (l.2.1 == (l.1.length : Int)) = true by rw [beq_iff_eq]; exact he]; rfl
  · rw [show (l.2.1 == (l.1.length : Int)) = false by rw [beq_eq_false_iff_ne]; exact he, cond_false, drop_cons (by omega) 0, fsT, any_mem, decide_eq_true (rem_mem all l hl _ (by rw [drop_cons (show l.2.1.toNat < l.1.length by omega) 0]; exact List.mem_cons_self ..))]; rfl
/-- A line's number, as its next call's. -/
def bv (all : List D72) (b : Int) : Int := bif decide (b < 0) then -1 else hd (all.getD b.toNat d72)
def bOK (all : List D72) (b : Int) : Prop := b < 0 ∨ 0 ≤ b ∧ b < all.length ∧ (all.getD b.toNat d72).2.1 ≠ (all.getD b.toNat d72).1.length
theorem hd_nn {cs : List D30} {all : List D72} (hL : LOK cs all) {b : Int} (h1 : 0 ≤ b) (h2 : b < all.length) (h3 : (all.getD b.toNat d72).2.1 ≠ (all.getD b.toNat d72).1.length) : 0 ≤ hd (all.getD b.toNat d72) := by
  obtain ⟨g1, g2, g3, g4⟩ := hL _ (C.F9.getD_mem (show b.toNat < all.length by omega) d72)
  exact (g4 _ (C.F9.getD_mem (by omega) 0)).1
theorem bst_eq (cs : List D30) (all : List D72) (hk : ∀ y : Int, A.F45.val (cs.getD y.toNat d30) = true → 0 ≤ (cs.getD y.toNat d30).2.2.2.2.2.2.1) (hL : LOK cs all) (hn : ((all.map (·.1)).flatten).Nodup) : ∀ (m i : Nat) (b : Int), i + m = all.length → bOK all b →
    bsD cs (rem all) ((all.drop i).map (·.1)) (bv all b) = bv all (bst cs all (mnA cs all (-1)) (List.range' i m) b)
  | 0, i, b, h, _ => by rw [List.drop_eq_nil_of_le (by omega)]; rfl
  | m + 1, i, b, h, hb => by
    have hi : i < all.length := by omega
    have hm := C.F9.getD_mem hi d72
    obtain ⟨g1, g2, g3, g4⟩ := hL _ hm
    rw [drop_cons hi d72, List.map_cons, bsD, List.range'_succ, bst, fsT_line all hn _ hm g1 g2, frE_eq cs hk]
    cases he : ((all.getD i d72).2.1 == ((all.getD i d72).1.length : Int)) with
    | true =>
      rw [cond_true, cond_true, show decide ((-1 : Int) ≥ 0) = false from rfl, cond_false]
      exact bst_eq cs all hk hL hn m (i + 1) b (by omega) hb
    | false =>
      rw [beq_eq_false_iff_ne] at he
      have hnn := hd_nn hL (b := (i : Int)) (by omega) (by omega) (by rw [Int.toNat_natCast]; exact he)
      rw [Int.toNat_natCast] at hnn
      have hi2 : bOK all (i : Int) := .inr ⟨by omega, by omega, by rw [Int.toNat_natCast]; exact he⟩
      have hbi : bv all (i : Int) = hd (all.getD i d72) := by
        unfold bv
        rw [decide_eq_false (show ¬ (i : Int) < 0 by omega), cond_false, Int.toNat_natCast]
      rw [cond_false, cond_false, decide_eq_true (show hd (all.getD i d72) ≥ 0 by omega), cond_true]
      cases hf : frE cs (rem all) (hd (all.getD i d72)) with
      | false => exact bst_eq cs all hk hL hn m (i + 1) b (by omega) hb
      | true =>
        rw [cond_true, Bool.not_true, cond_false]
        rcases hb with hb | hb
        · rw [decide_eq_true hb, cond_true, show bv all b = -1 by unfold bv; rw [decide_eq_true hb]; rfl, show decide ((-1 : Int) < 0) = true from rfl, cond_true, ← hbi]
          exact bst_eq cs all hk hL hn m (i + 1) _ (by omega) hi2
        · have hbn := hd_nn hL hb.1 hb.2.1 hb.2.2
          have e : bv all b = hd (all.getD b.toNat d72) := by unfold bv; rw [decide_eq_false (by omega)]; rfl
          rw [decide_eq_false (show ¬ b < 0 by omega), cond_false, e, decide_eq_false (show ¬ hd (all.getD b.toNat d72) < 0 by omega), cond_false]
          cases decide (hd (all.getD i d72) < hd (all.getD b.toNat d72)) with
          | true => rw [cond_true, cond_true, ← hbi]; exact bst_eq cs all hk hL hn m (i + 1) _ (by omega) hi2
          | false => rw [cond_false, cond_false, ← e]; exact bst_eq cs all hk hL hn m (i + 1) _ (by omega) (.inr hb)
theorem filt (x : Int) : ∀ (a b : List Int), (a ++ x :: b).Nodup → (a ++ x :: b).filter (· != x) = a ++ b
  | [], b, h => by
    rw [List.nil_append, List.filter_cons, show (x != x) = false by simp, if_neg (by decide), List.nil_append]
    rw [List.nil_append, List.nodup_cons] at h
    rw [List.filter_eq_self]
    intro y hy
    rw [bne_iff_ne]
    rintro rfl
    exact h.1 hy
  | y :: a, b, h => by
    rw [List.cons_append, List.nodup_cons] at h
    have hy : (y != x) = true := by
      rw [bne_iff_ne]
      rintro rfl
      exact h.1 (List.mem_append.2 (.inr (List.mem_cons_self ..)))
    rw [List.cons_append, List.filter_cons, hy, if_pos rfl, filt x a b h.2, List.cons_append]
theorem rem_set : ∀ (all : List D72) (i : Nat), i < all.length → 0 ≤ (all.getD i d72).2.1 → (all.getD i d72).2.1 < (all.getD i d72).1.length →
    ∃ a b, rem all = a ++ hd (all.getD i d72) :: b ∧ rem (all.set i ((all.getD i d72).1, (all.getD i d72).2.1 + 1, ())) = a ++ b
  | q :: r, 0, _, h0, h1 => by
    rw [List.getD_cons_zero] at h0 h1 ⊢
    refine ⟨[], q.1.drop (q.2.1.toNat + 1) ++ rem r, ?_, ?_⟩
    · rw [rem, List.map_cons, List.flatten_cons, drop_cons (show q.2.1.toNat < q.1.length by omega) 0]; rfl
    · rw [List.set_cons_zero, rem, List.map_cons, List.flatten_cons, show (q.2.1 + 1).toNat = q.2.1.toNat + 1 by omega]; rfl
  | q :: r, i + 1, h, h0, h1 => by
    rw [List.getD_cons_succ] at h0 h1 ⊢
    obtain ⟨a, b, e1, e2⟩ := rem_set r i (by rw [List.length_cons] at h; omega) h0 h1
    refine ⟨q.1.drop q.2.1.toNat ++ a, b, ?_, ?_⟩
    · rw [rem, List.map_cons, List.flatten_cons, List.append_assoc, ← e1]; rfl
    · rw [List.set_cons_succ, rem, List.map_cons, List.flatten_cons, List.append_assoc, ← e2]; rfl
theorem fst_set (all : List D72) (i : Nat) (x : Int) : (all.set i ((all.getD i d72).1, x, ())).map (·.1) = all.map (·.1) := by
  rw [List.map_set]
  apply List.ext_getElem?
  intro j
  rw [List.getElem?_set]
  by_cases h : i = j
  · subst h
    rw [if_pos rfl, List.length_map]
    by_cases hi : i < all.length
    · rw [if_pos hi, List.getElem?_map, List.getElem?_eq_getElem hi, List.getD_eq_getElem?_getD, List.getElem?_eq_getElem hi]; rfl
    · rw [if_neg hi, List.getElem?_eq_none (by rw [List.length_map]; omega)]
  · rw [if_neg h]
theorem mg_eq (cs : List D30) (orders : List (List Int)) (hk : ∀ y : Int, A.F45.val (cs.getD y.toNat d30) = true → 0 ≤ (cs.getD y.toNat d30).2.2.2.2.2.2.1) : ∀ (f : Nat) (all : List D72) (out : List Int), all.map (·.1) = orders → LOK cs all → orders.flatten.Nodup → (rem all).length = f →
    mg cs f all out = mgD cs orders f (rem all) out
  | 0, all, out, _, _, _, _ => rfl
  | f + 1, all, out, ho, hL, hn, hf => by
    have hn' := hn
    rw [← ho] at hn'
    have hb := bst_eq cs all hk hL hn' all.length 0 (-1) (by omega) (.inl (by decide))
    have hok := bst_ok cs all (mnA cs all (-1)) (List.range' 0 all.length) (-1) (fun i hi => by rw [List.mem_range'_1] at hi; omega) (.inl (by decide))
    rw [List.drop_zero, ho, show bv all (-1) = -1 from rfl] at hb
    rw [mg, mgD, decide_eq_true (show ((rem all).length : Int) > 0 by omega), cond_true, hb]
    generalize bst cs all (mnA cs all (-1)) (List.range' 0 all.length) (-1) = b at hok ⊢
    by_cases h0 : b < 0
    · rw [decide_eq_true h0, cond_true, show bv all b = -1 by unfold bv; rw [decide_eq_true h0]; rfl]; rfl
    · obtain ⟨b1, b2, b3⟩ : 0 ≤ b ∧ b < all.length ∧ (all.getD b.toNat d72).2.1 ≠ (all.getD b.toNat d72).1.length := by
        rcases hok with h | h
        · exact absurd h h0
        · exact h
      have hbn := hd_nn hL b1 b2 b3
      have e : bv all b = hd (all.getD b.toNat d72) := by unfold bv; rw [decide_eq_false h0]; rfl
      rw [decide_eq_false h0, cond_false, e, decide_eq_false (show ¬ hd (all.getD b.toNat d72) < 0 by omega), cond_false]
      obtain ⟨g1, g2, g3, g4⟩ := hL _ (C.F9.getD_mem (show b.toNat < all.length by omega) d72)
      obtain ⟨x, y, r1, r2⟩ := rem_set all b.toNat (by omega) g1 (by omega)
      have hrn := rem_nodup all hn'
      rw [r1] at hrn
      have hlen : (x ++ y).length = f := by
        rw [r1, List.length_append, List.length_cons] at hf
        rw [List.length_append]; omega
      rw [r1, filt _ x y hrn, ← r2]
      refine mg_eq cs orders hk f _ _ (by rw [fst_set]; exact ho) (fun l hl => ?_) hn (by rw [r2]; exact hlen)
      rcases List.mem_or_eq_of_mem_set hl with hl | rfl
      · exact hL l hl
      · exact ⟨by dsimp only; omega, by dsimp only; omega, g3, g4⟩
theorem lst_nodup (cs : List D30) : ∀ (r pre : List Int), lst cs pre r = true → r.Nodup ∧ ∀ y ∈ r, ¬ y ∈ pre
  | [], pre, _ => ⟨List.nodup_nil, fun y h => by cases h⟩
  | y :: r, pre, h => by
    rw [lst, Bool.and_eq_true, Bool.and_eq_true, Bool.not_eq_true'] at h
    obtain ⟨h1, h2⟩ := lst_nodup cs r _ h.2
    have h3 := h.1.2
    rw [any_mem, decide_eq_false_iff_not] at h3
    refine ⟨List.nodup_cons.2 ⟨fun hy => h2 y hy (by simp), h1⟩, fun z hz => ?_⟩
    rcases List.mem_cons.1 hz with rfl | hz
    · exact h3
    · exact fun hp => h2 z hz (List.mem_append.2 (.inl hp))
theorem sm_eq : ∀ orders : List (List Int), sm (orders.map ln0) = (orders.flatten.length : Int)
  | [] => rfl
  | o :: r => by rw [List.map_cons, sm, sm_eq r, List.flatten_cons, List.length_append]; show (o.length : Int) + _ = _; omega
theorem rem_start : ∀ orders : List (List Int), rem (orders.map ln0) = orders.flatten
  | [] => rfl
  | o :: r => by
    have := rem_start r
    rw [List.map_cons, List.flatten_cons, ← this, rem, List.map_cons, List.flatten_cons]; rfl
theorem fst_start : ∀ orders : List (List Int), (orders.map ln0).map (·.1) = orders
  | [] => rfl
  | o :: r => by rw [List.map_cons, List.map_cons, fst_start r]; rfl
end Go.Proofs.Ytdjdbjcapenjeaa.PMergeB
