/- The document's table says what can be. -/
import Derived.Test.YtdjdbjcapenjeaaKP3
set_option linter.unusedVariables false
namespace Go.Proofs.Ytdjdbjcapenjeaa.KP5
open Go Go.Proofs.Ytdjdbjcapenjeaa.Dx Go.Proofs.Ytdjdbjcapenjeaa.Dx.TYtdjdbjcapenjeaa
open KP1 KP2 KP3 PObeys KE KF
/-- The cell of a number. -/
def cellS (cs : List D30) : Nat → D60
  | 0 => d60
  | k + 1 => (true, rv cs k, ())
theorem cellS_X (cs : List D30) {s : Nat} (h : s ≤ cs.length) : XOK cs (cellS cs s) := by
  cases s with
  | zero => exact .inl rfl
  | succ k => exact .inr ⟨k, h, rfl⟩
theorem cell_ok (cs : List D30) (l : List Int) (hn : cs.length ≤ 16) {s : Nat} (h : s ≤ cs.length) : F63.val (cs, l, ()) (s : Int) = cellS cs s ∧ F63.Pre (cs, l, ()) (s : Int) := by
  unfold F63.val F63.Pre
  cases s with
  | zero => exact ⟨rfl, trivial⟩
  | succ k =>
    have e : (((k + 1 : Nat) : Int) == 0) = false := by rw [beq_eq_false_iff_ne]; omega
    have w : IntKind.i64.wrap (((k + 1 : Nat) : Int) - 1) = (k : Int) := by rw [w64 (by omega) (by omega)]; omega
    rw [e, cond_false, cond_false, w, Int.toNat_natCast]
    exact ⟨rfl, by omega, by show (k : Int) < (cs.length : Int); omega⟩
theorem stF_ok (v : List Int) : ∀ (l : List D30) (k : Int), (∃ c ∈ l, c.2.2.1.2.2.2.1 = v) → ∃ i, i < l.length ∧ F64.stF v l k = k + i + 1 ∧ (l.getD i d30).2.2.1.2.2.2.1 = v
  | [], k, h => by obtain ⟨c, hc, _⟩ := h; cases hc
  | c :: r, k, h => by
    rw [F64.stF]
    by_cases e : c.2.2.1.2.2.2.1 = v
    · refine ⟨0, by rw [List.length_cons]; omega, ?_, e⟩
      rw [show B.F47.val c.2.2.1.2.2.2.1 v = true from decide_eq_true e, cond_true]; simp
    · rw [show B.F47.val c.2.2.1.2.2.2.1 v = false from decide_eq_false e, cond_false]
      obtain ⟨i, i1, i2, i3⟩ := stF_ok v r (k + 1) (by
        obtain ⟨c', hc, hv⟩ := h
        rcases List.mem_cons.1 hc with rfl | hc
        · exact absurd hv e
        · exact ⟨c', hc, hv⟩)
      exact ⟨i + 1, by rw [List.length_cons]; omega, by rw [i2]; omega, i3⟩
theorem state_ok (cs : List D30) {x : D60} (hx : XOK cs x) : ∃ s : Nat, F64.val cs x = (s : Int) ∧ s ≤ cs.length ∧ cellS cs s = x := by
  rcases hx with rfl | ⟨k, hk, rfl⟩
  · exact ⟨0, rfl, Nat.zero_le _, rfl⟩
  · obtain ⟨i, i1, i2, i3⟩ := stF_ok (rv cs k) cs 0 ⟨cs.getD k d30, mem_at hk, rfl⟩
    refine ⟨i + 1, ?_, i1, ?_⟩
    · show F64.stF (rv cs k) cs 0 = _
      rw [i2]; omega
    · show (true, rv cs i, ()) = _
      rw [show rv cs i = rv cs k from i3]
theorem all_range {p : Nat → Bool} {n : Nat} : (List.range' 0 n).all p = true ↔ ∀ j, j < n → p j = true := by
  rw [List.all_eq_true]
  exact ⟨fun h j hj => h j (range_mem.2 hj), fun h j hj => h j (range_mem.1 hj)⟩
theorem bt_ok (S i : Nat) (hS : S < 65536) (hi : i < 16) : (bt (S : Int) (i : Int) == 0) = !S.testBit i ∧ (bt (S : Int) (i : Int) == 1) = S.testBit i := by
  rw [bt_nat S i (by omega) (by omega)]
  cases S.testBit i <;> exact ⟨rfl, rfl⟩
theorem complete_ok (cs : List D30) (l : List Int) (hn : cs.length ≤ 16) (S : Nat) (hS : S < 65536) : F57.val (cs, l, ()) (S : Int) = true ↔ cpl cs S := by
  show (List.range' 0 cs.length).all (F57.cmp cs (S : Int)) = true ↔ _
  rw [all_range]
  refine forall_congr' fun j => forall_congr' fun hj => ?_
  unfold F57.cmp
  rw [(bt_ok S j hS (by omega)).1]
  show (!(kn cs j && !S.testBit j)) = true ↔ (kn cs j = true → S.testBit j = true)
  cases kn cs j <;> cases S.testBit j <;> simp
theorem F26P {cs : List D30} (g : Good cs) {x : D60} (hx : XOK cs x) (i : Nat) : B.F26.Pre (cs.getD i d30) x := by
  refine G.F26_pre _ _ ?_
  rcases hx with rfl | ⟨k, hk, rfl⟩
  · exact Nat.zero_le _
  · exact (g.lc _ (mem_at hk)).2.1
theorem nxt_pre {cs : List D30} (g : Good cs) {S s i : Nat} (hs : s ≤ cs.length) (hi : i < cs.length) : nxP cs (S : Int) (s : Int) (i : Int) := by
  have h16 := g.n16
  have hLB : LB = 1073741824 := rfl
  obtain ⟨c1, c2⟩ := cell_ok cs [] h16 hs
  unfold nxP
  refine ⟨by show cs.length ≤ LB; omega, by omega, by show (i : Int) < (cs.length : Int); omega, c2, ?_, ⟨by show cs.length ≤ LB; omega, fun c hc => (g.lc c hc).2.1⟩⟩
  rw [c1, Int.toNat_natCast]
  exact F26P g (cellS_X cs hs) i
theorem nxt_ok {cs : List D30} (g : Good cs) {S s i : Nat} (hS : S < 65536) (hs : s ≤ cs.length) (hi : i < cs.length) :
    ((nxV cs (S : Int) (s : Int) (i : Int)).1 = true ↔ fr cs S i ∧ (ply cs i (cellS cs s)).1 = true) ∧
    ((nxV cs (S : Int) (s : Int) (i : Int)).1 = true → ∃ s' : Nat, (nxV cs (S : Int) (s : Int) (i : Int)).2 = (s' : Int) ∧ s' ≤ cs.length ∧ cellS cs s' = (ply cs i (cellS cs s)).2) := by
  have h16 := g.n16
  obtain ⟨c1, c2⟩ := cell_ok cs [] h16 hs
  have hall : (List.range' 0 cs.length).all (F58.nx cs (S : Int) (i : Int)) = true ↔ ∀ j, j < cs.length → bf cs j i = true → S.testBit j = true := by
    rw [all_range]
    refine forall_congr' fun j => forall_congr' fun hj => ?_
    unfold F58.nx
    rw [(bt_ok S j hS (by omega)).1, Int.toNat_natCast]
    show (!(!S.testBit j && bf cs j i)) = true ↔ (bf cs j i = true → S.testBit j = true)
    cases bf cs j i <;> cases S.testBit j <;> simp
  have hv : nxV cs (S : Int) (s : Int) (i : Int) = bif S.testBit i then (false, 0) else bif (List.range' 0 cs.length).all (F58.nx cs (S : Int) (i : Int)) then ((ply cs i (cellS cs s)).1, F64.val cs (ply cs i (cellS cs s)).2) else (false, 0) := by
    unfold nxV F58.val
    rw [(bt_ok S i hS (by omega)).2, c1, Int.toNat_natCast]
  rw [hv]
  cases hb : S.testBit i with
  | true =>
    rw [cond_true]
    exact ⟨⟨fun h => (nomatch h), fun h => by rw [h.1.1] at hb; cases hb⟩, fun h => (nomatch h)⟩
  | false =>
    rw [cond_false]
    cases ha : (List.range' 0 cs.length).all (F58.nx cs (S : Int) (i : Int)) with
    | false =>
      rw [cond_false]
      exact ⟨⟨fun h => (nomatch h), fun h => by rw [hall.2 h.1.2] at ha; cases ha⟩, fun h => (nomatch h)⟩
    | true =>
      rw [cond_true]
      exact ⟨⟨fun h => ⟨⟨hb, hall.1 ha⟩, h⟩, fun h => h.2⟩, fun _ => state_ok cs (ply_X hi (cellS_X cs hs))⟩
/-- Where a set and a value stand in the table. -/
abbrev pos (cs : List D30) (S s : Nat) : Nat := S * (cs.length + 1) + s
theorem pos_inj (cs : List D30) {S s S' s' : Nat} (hs : s ≤ cs.length) (hs' : s' ≤ cs.length) (h : pos cs S s = pos cs S' s') : S = S' ∧ s = s' := by
  have e1 : (S * (cs.length + 1) + s) / (cs.length + 1) = S := by rw [Nat.add_comm, Nat.add_mul_div_right _ _ (Nat.succ_pos _), Nat.div_eq_of_lt (by omega), Nat.zero_add]
  have e2 : (S' * (cs.length + 1) + s') / (cs.length + 1) = S' := by rw [Nat.add_comm, Nat.add_mul_div_right _ _ (Nat.succ_pos _), Nat.div_eq_of_lt (by omega), Nat.zero_add]
  have h' : S * (cs.length + 1) + s = S' * (cs.length + 1) + s' := h
  have e3 : S = S' := by rw [← e1, ← e2, h']
  subst e3
  exact ⟨rfl, by omega⟩
theorem pos_lt (cs : List D30) {S s : Nat} (hS : S < 2 ^ cs.length) (hs : s ≤ cs.length) : pos cs S s < (cs.length + 1) * 2 ^ cs.length := by
  have h : (S + 1) * (cs.length + 1) ≤ 2 ^ cs.length * (cs.length + 1) := Nat.mul_le_mul_right _ hS
  rw [Nat.succ_mul, Nat.mul_comm (2 ^ cs.length)] at h
  show S * (cs.length + 1) + s < _
  omega
theorem two_le (n : Nat) (h : n ≤ 16) : (n + 1) * 2 ^ n ≤ 1114112 := Nat.le_trans (Nat.mul_le_mul (by omega : n + 1 ≤ 17) (Nat.pow_le_pow_right (by decide) h)) (by decide)
theorem at_ok (cs : List D30) (hn : cs.length ≤ 16) {S s : Nat} (hS : S < 2 ^ cs.length) (hs : s ≤ cs.length) : atI cs (S : Int) (s : Int) = ((pos cs S s : Nat) : Int) := by
  have h1 := pos_lt cs hS hs
  have h2 := two_le cs.length hn
  have h3 : pos cs S s = S * (cs.length + 1) + s := rfl
  unfold atI
  have h4 : IntKind.i64.wrap ((S * (cs.length + 1) : Nat) : Int) = ((S * (cs.length + 1) : Nat) : Int) := i64w _ (by omega)
  rw [w64n (by unfold LB; omega), ← Int.natCast_mul, h4, ← Int.natCast_add]
  exact i64w _ (by omega)
/-- What the table says, of sets from which fewer than m calls are missing. -/
structure InvD (cs : List D30) (m : Nat) (tb : List Int) : Prop where
  len : tb.length = (cs.length + 1) * 2 ^ cs.length
  tab : ∀ S, S < 2 ^ cs.length → mu S cs.length < m → ∀ s, s ≤ cs.length → tb.getD (pos cs S s) 0 = 0 ∨ (tb.getD (pos cs S s) 0 = 1 ∧ KP2.Can cs S (cellS cs s)) ∨ (tb.getD (pos cs S s) 0 = 2 ∧ ¬ KP2.Can cs S (cellS cs s))
theorem InvD.less {cs : List D30} {m k : Nat} {tb : List Int} (h : InvD cs m tb) (hk : k ≤ m) : InvD cs k tb := ⟨h.len, fun S a b s c => h.tab S a (by omega) s c⟩
/-- Where the table stays as it is. -/
def Same (cs : List D30) (S s : Nat) (tb tb' : List Int) : Prop := ∀ S' s', S' < 2 ^ cs.length → s' ≤ cs.length → mu S cs.length ≤ mu S' cs.length → ¬ (S' = S ∧ s' = s) → tb'.getD (pos cs S' s') 0 = tb.getD (pos cs S' s') 0
def FPost (cs : List D30) (S s : Nat) (tb : List Int) (r : Bool × List Int) : Prop :=
  (r.1 = true ↔ KP2.Can cs S (cellS cs s)) ∧ Same cs S s tb r.2 ∧ InvD cs (mu S cs.length + 1) r.2
theorem FPost.inv {cs : List D30} {S s m : Nat} {tb : List Int} {r : Bool × List Int} (h : FPost cs S s tb r) (ht : InvD cs m tb) (hm : mu S cs.length + 1 ≤ m) : InvD cs m r.2 := by
  refine ⟨h.2.2.len, fun S' a b s' c => ?_⟩
  rcases Nat.lt_or_ge (mu S' cs.length) (mu S cs.length + 1) with h1 | h1
  · exact h.2.2.tab S' a h1 s' c
  · rw [h.2.1 S' s' a c (by omega) (fun e => by rw [e.1] at h1; omega)]
    exact ht.tab S' a b s' c
theorem getD_set {l : List Int} {i j : Nat} {x : Int} (hi : i < l.length) : (l.set i x).getD j 0 = if i = j then x else l.getD j 0 := by
  rw [List.getD_eq_getElem?_getD, List.getD_eq_getElem?_getD]
  by_cases h : i = j
  · subst h; rw [if_pos rfl, List.getElem?_set_self hi]; rfl
  · rw [if_neg h, List.getElem?_set_ne h]
theorem flp_ok {cs : List D30} (g : Good cs) {S s : Nat} (hS : S < 2 ^ cs.length) (hs : s ≤ cs.length) (r : Int → Int → List Int → Bool × List Int) (q : Int → Int → List Int → Prop)
    (IH : ∀ (S' s' : Nat) (tb : List Int), S' < 2 ^ cs.length → s' ≤ cs.length → mu S' cs.length < mu S cs.length → InvD cs (mu S' cs.length + 1) tb → q (S' : Int) (s' : Int) tb ∧ FPost cs S' s' tb (r (S' : Int) (s' : Int) tb)) :
    ∀ (m j : Nat), j + m = cs.length → ∀ tb : List Int, InvD cs (mu S cs.length) tb →
      ((tb.getD (pos cs S s) 0 = 1 ∧ KP2.Can cs S (cellS cs s)) ∨ (tb.getD (pos cs S s) 0 = 2 ∧ ¬ cpl cs S ∧ ∀ k, k < j → ¬ cand cs S (cellS cs s) k)) →
      okfl r q cs (pos cs S s) (S : Int) (s : Int) (List.range' j m) tb ∧ Same cs S s tb (flp r cs (pos cs S s) (S : Int) (s : Int) (List.range' j m) tb) ∧ InvD cs (mu S cs.length) (flp r cs (pos cs S s) (S : Int) (s : Int) (List.range' j m) tb) ∧
      (((flp r cs (pos cs S s) (S : Int) (s : Int) (List.range' j m) tb).getD (pos cs S s) 0 = 1 ∧ KP2.Can cs S (cellS cs s)) ∨ ((flp r cs (pos cs S s) (S : Int) (s : Int) (List.range' j m) tb).getD (pos cs S s) 0 = 2 ∧ ¬ KP2.Can cs S (cellS cs s)))
  | 0, j, hj, tb, ht, hA => by
    refine ⟨trivial, fun _ _ _ _ _ _ => rfl, ht, ?_⟩
    rcases hA with h | ⟨h1, h2, h3⟩
    · exact .inl h
    · refine .inr ⟨h1, fun hc => ?_⟩
      rcases (can_iff cs S _).1 hc with h | ⟨i, hi⟩
      · exact h2 h
      · exact h3 i (by have := hi.1; omega) hi
  | m + 1, j, hj, tb, ht, hA => by
    have hjn : j < cs.length := by omega
    have h16 := g.n16
    have hS16 := lt16 h16 hS
    have hpl : pos cs S s < tb.length := by rw [ht.len]; exact pos_lt cs hS hs
    rw [List.range'_succ, okfl, flp]
    rcases hA with h | ⟨h1, h2, h3⟩
    · have e : (tb.getD (pos cs S s) 0 == 2) = false := by rw [h.1]; rfl
      rw [e, cond_false, cond_false]
      exact ⟨⟨hpl, trivial⟩, fun _ _ _ _ _ _ => rfl, ht, .inl h⟩
    · have e : (tb.getD (pos cs S s) 0 == 2) = true := by rw [h1]; rfl
      rw [e, cond_true, cond_true]
      have go : ¬ cand cs S (cellS cs s) j → ∀ k, k < j + 1 → ¬ cand cs S (cellS cs s) k := fun h k hk => by
        rcases Nat.lt_or_ge k j with h1 | h1
        · exact h3 k h1
        · have : k = j := by omega
          rw [this]; exact h
      have hnp := nxt_pre (S := S) g hs hjn
      obtain ⟨n1, n2⟩ := nxt_ok g hS16 hs hjn
      cases hx : (nxV cs (S : Int) (s : Int) (j : Int)).1 with
      | false =>
        rw [cond_false, cond_false]
        obtain ⟨a, b, c, d⟩ := flp_ok g hS hs r q IH m (j + 1) (by omega) tb ht (.inr ⟨h1, h2, go fun hc => by rw [n1.2 ⟨hc.2.1, hc.2.2.1⟩] at hx; cases hx⟩)
        exact ⟨⟨hpl, hnp, a⟩, b, c, d⟩
      | true =>
        rw [cond_true, cond_true]
        obtain ⟨hfr, hp1⟩ := n1.1 hx
        obtain ⟨s', e1, e2, e3⟩ := n2 hx
        rw [e1, addS_nat S j hS16 (by omega) hfr.1]
        have hmu := mu_pos S j cs.length hfr.1 hjn
        obtain ⟨iq, ip⟩ := IH (S ||| 2 ^ j) s' tb (or_lt hS hjn) e2 (by omega) (ht.less (by omega))
        generalize hR : r ((S ||| 2 ^ j : Nat) : Int) (s' : Int) tb = R at iq ip ⊢
        rw [FPost, e3] at ip
        obtain ⟨p1, p2, p3⟩ := ip
        rw [hmu] at p3
        have hat : R.2.getD (pos cs S s) 0 = tb.getD (pos cs S s) 0 := p2 S s hS hs (by omega) (fun e => by rw [← e.1] at hmu; omega)
        have hsame : Same cs S s tb R.2 := fun S' s'' a b c d => p2 S' s'' a b (by omega) (fun e => by rw [← e.1] at hmu; omega)
        have hlen : R.2.length = tb.length := p3.len.trans ht.len.symm
        cases hr : R.1 with
        | true =>
          rw [cond_true, cond_true]
          have hcan := p1.1 hr
          have hcS : KP2.Can cs S (cellS cs s) := (can_iff cs S _).2 (.inr ⟨j, hjn, hfr, hp1, hcan⟩)
          have hpl' : pos cs S s < R.2.length := by rw [hlen]; exact hpl
          have hi' : InvD cs (mu S cs.length) (R.2.set (pos cs S s) 1) := by
            refine ⟨by rw [List.length_set]; exact p3.len, fun S' a b s'' c => ?_⟩
            rw [getD_set hpl', if_neg (fun e => by have := (pos_inj cs hs c e).1; rw [← this] at b; omega)]
            exact p3.tab S' a b s'' c
          obtain ⟨a, b, c, d⟩ := flp_ok g hS hs r q IH m (j + 1) (by omega) (R.2.set (pos cs S s) 1) hi' (.inl ⟨by rw [getD_set hpl', if_pos rfl], hcS⟩)
          refine ⟨⟨hpl, hnp, iq, hlen, a⟩, fun S' s'' x y z w => ?_, c, d⟩
          rw [b S' s'' x y z w, getD_set hpl', if_neg (fun e => by have := pos_inj cs hs y e; exact w ⟨this.1.symm, this.2.symm⟩)]
          exact hsame S' s'' x y z w
        | false =>
          rw [cond_false, cond_false]
          have hnc : ¬ cand cs S (cellS cs s) j := fun hc => by rw [p1.2 hc.2.2.2] at hr; cases hr
          obtain ⟨a, b, c, d⟩ := flp_ok g hS hs r q IH m (j + 1) (by omega) R.2 p3 (.inr ⟨by rw [hat]; exact h1, h2, go hnc⟩)
          exact ⟨⟨hpl, hnp, iq, hlen, a⟩, fun S' s'' x y z w => (b S' s'' x y z w).trans (hsame S' s'' x y z w), c, d⟩
theorem fnd_ok {cs : List D30} (g : Good cs) : ∀ (f S s : Nat) (tb : List Int), S < 2 ^ cs.length → s ≤ cs.length → mu S cs.length < f → InvD cs (mu S cs.length + 1) tb → okF f cs (S : Int) (s : Int) tb ∧ FPost cs S s tb (fnd f cs (S : Int) (s : Int) tb)
  | 0, S, s, tb, hS, hs, hm, ht => absurd hm (Nat.not_lt_zero _)
  | f + 1, S, s, tb, hS, hs, hm, ht => by
    have h16 := g.n16
    have hS16 := lt16 h16 hS
    have hpl : pos cs S s < tb.length := by rw [ht.len]; exact pos_lt cs hS hs
    have hLB : cs.length ≤ LB := by have : LB = 1073741824 := rfl; omega
    rw [fnd, okF, at_ok cs h16 hS hs, Int.toNat_natCast]
    rcases ht.tab S hS (Nat.lt_succ_self _) s hs with h0 | h0 | h0
    · have e : (tb.getD (pos cs S s) 0 == 0) = true := by rw [h0]; rfl
      rw [e, cond_true, cond_true]
      have ht2 : ∀ v : Int, InvD cs (mu S cs.length) (tb.set (pos cs S s) v) := fun v => by
        refine ⟨by rw [List.length_set]; exact ht.len, fun S' a b s'' c => ?_⟩
        rw [getD_set hpl, if_neg (fun e => by have := (pos_inj cs hs c e).1; rw [← this] at b; omega)]
        exact ht.tab S' a (by omega) s'' c
      have main : ∀ v : Int, ((v = 1 ∧ KP2.Can cs S (cellS cs s)) ∨ (v = 2 ∧ ¬ cpl cs S)) → okfl (fnd f cs) (okF f cs) cs (pos cs S s) (S : Int) (s : Int) (List.range' 0 cs.length) (tb.set (pos cs S s) v) ∧ (flp (fnd f cs) cs (pos cs S s) (S : Int) (s : Int) (List.range' 0 cs.length) (tb.set (pos cs S s) v)).length = tb.length ∧
          FPost cs S s tb ((flp (fnd f cs) cs (pos cs S s) (S : Int) (s : Int) (List.range' 0 cs.length) (tb.set (pos cs S s) v)).getD (pos cs S s) 0 == 1, flp (fnd f cs) cs (pos cs S s) (S : Int) (s : Int) (List.range' 0 cs.length) (tb.set (pos cs S s) v)) := by
        intro v hv
        obtain ⟨a, b, c, d⟩ := flp_ok g hS hs (fnd f cs) (okF f cs) (fun S' s' tb a b c d => fnd_ok g f S' s' tb a b (by omega) d) cs.length 0 (by omega) (tb.set (pos cs S s) v) (ht2 v) (by
          rw [getD_set hpl, if_pos rfl]
          rcases hv with h | h
          · exact .inl h
          · exact .inr ⟨h.1, h.2, fun k hk => absurd hk (Nat.not_lt_zero _)⟩)
        generalize flp (fnd f cs) cs (pos cs S s) (S : Int) (s : Int) (List.range' 0 cs.length) (tb.set (pos cs S s) v) = T at a b c d ⊢
        have hsame : Same cs S s tb T := fun S' s'' x y z w => by
          rw [b S' s'' x y z w, getD_set hpl, if_neg (fun e => by have := pos_inj cs hs y e; exact w ⟨this.1.symm, this.2.symm⟩)]
        refine ⟨a, c.len.trans ht.len.symm, ?_, hsame, c.len, fun S' x y s'' z => ?_⟩
        · rcases d with ⟨d1, d2⟩ | ⟨d1, d2⟩
          · exact ⟨fun _ => d2, fun _ => by show (T.getD (pos cs S s) 0 == 1) = true; rw [d1]; rfl⟩
          · refine ⟨fun h => ?_, fun h => absurd h d2⟩
            have h' : (T.getD (pos cs S s) 0 == 1) = true := h
            rw [d1] at h'; cases h'
        · by_cases e : S' = S ∧ s'' = s
          · obtain ⟨rfl, rfl⟩ := e
            exact .inr d
          · rcases Nat.lt_or_ge (mu S' cs.length) (mu S cs.length) with h | h
            · exact c.tab S' x h s'' z
            · rw [hsame S' s'' x z h e]
              exact ht.tab S' x y s'' z
      unfold t2
      cases hc : F57.val (cs, [], ()) (S : Int) with
      | true =>
        rw [cond_true, List.set_set]
        have hcp := (complete_ok cs [] h16 S hS16).1 hc
        obtain ⟨m1, m2, m3⟩ := main 1 (.inl ⟨rfl, .done hcp⟩)
        exact ⟨⟨⟨by omega, hpl, hLB⟩, m1, m2⟩, m3⟩
      | false =>
        rw [cond_false]
        obtain ⟨m1, m2, m3⟩ := main 2 (.inr ⟨rfl, fun h => by rw [(complete_ok cs [] h16 S hS16).2 h] at hc; cases hc⟩)
        exact ⟨⟨⟨by omega, hpl, hLB⟩, m1, m2⟩, m3⟩
    · have e : (tb.getD (pos cs S s) 0 == 0) = false := by rw [h0.1]; rfl
      rw [e, cond_false, cond_false]
      refine ⟨⟨⟨by omega, hpl, hLB⟩, trivial⟩, ⟨fun _ => h0.2, fun _ => ?_⟩, fun _ _ _ _ _ _ => rfl, ht⟩
      show (tb.getD (pos cs S s) 0 == 1) = true
      rw [h0.1]; rfl
    · have e : (tb.getD (pos cs S s) 0 == 0) = false := by rw [h0.1]; rfl
      rw [e, cond_false, cond_false]
      refine ⟨⟨⟨by omega, hpl, hLB⟩, trivial⟩, ⟨fun h => ?_, fun h => absurd h h0.2⟩, fun _ _ _ _ _ _ => rfl, ht⟩
      have h' : (tb.getD (pos cs S s) 0 == 1) = true := h
      rw [h0.1] at h'; cases h'
end Go.Proofs.Ytdjdbjcapenjeaa.KP5
