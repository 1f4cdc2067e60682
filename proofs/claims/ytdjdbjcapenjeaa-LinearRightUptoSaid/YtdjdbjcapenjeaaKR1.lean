/- An order obeys just when each call of it may come next. -/
import Derived.Test.YtdjdbjcapenjeaaKP6
set_option linter.unusedVariables false
namespace Go.Proofs.Ytdjdbjcapenjeaa.KR1
open Go Go.Proofs.Ytdjdbjcapenjeaa.Dx Go.Proofs.Ytdjdbjcapenjeaa.Dx.TYtdjdbjcapenjeaa
open KP1 KP2 PObeys
inductive Chain (cs : List D30) : Nat → D60 → List Int → Prop
  | done {S x} : cpl cs S → Chain cs S x []
  | step {S x} (i : Nat) (l : List Int) : i < cs.length → fr cs S i → (ply cs i x).1 = true → Chain cs (S ||| 2 ^ i) (ply cs i x).2 l → Chain cs S x ((i : Int) :: l)
theorem Chain.can {cs : List D30} {S : Nat} {x : D60} {l : List Int} (h : Chain cs S x l) : KP2.Can cs S x := by
  induction h with
  | done h => exact .done h
  | step i l h1 h2 h3 h4 ih => exact .step i h1 h2 h3 ih
theorem chain_of {cs : List D30} {S : Nat} {x : D60} {l : List Int} (h : Ord cs S x l) : Chain cs S x l := by
  induction h with
  | done h => exact .done h
  | step i l h1 h2 h3 h4 ih => exact .step i l h2.1 h2.2.1 h2.2.2.1 ih
/-- Nothing stands behind what it was before. -/
def Timed (cs : List D30) : List Int → List Int → Prop
  | _, [] => True
  | pre, y :: r => (∀ b ∈ pre, bf cs y.toNat b.toNat = false) ∧ Timed cs (pre ++ [y]) r
def PlayAll (cs : List D30) : D60 → List Int → Prop
  | _, [] => True
  | x, y :: r => (ply cs y.toNat x).1 = true ∧ PlayAll cs (ply cs y.toNat x).2 r
theorem timed_mem (cs : List D30) : ∀ (r pre : List Int), Timed cs pre r → ∀ z ∈ r, ∀ b ∈ pre, bf cs z.toNat b.toNat = false
  | [], _, _, z, hz, _, _ => (nomatch hz)
  | y :: r, pre, h, z, hz, b, hb => by
    rcases List.mem_cons.1 hz with rfl | hz
    · exact h.1 b hb
    · exact timed_mem cs r (pre ++ [y]) h.2 z hz b (List.mem_append_left _ hb)
/-- The set is that of the numbers. -/
def SetOf (S : Nat) (pre : List Int) : Prop := ∀ j : Nat, S.testBit j = true ↔ (j : Int) ∈ pre
theorem SetOf.add {S : Nat} {pre : List Int} (h : SetOf S pre) (i : Nat) : SetOf (S ||| 2 ^ i) (pre ++ [(i : Int)]) := by
  intro j
  rw [or_bit, Bool.or_eq_true, decide_eq_true_iff, List.mem_append, List.mem_singleton, h j, Int.natCast_inj]
  exact ⟨fun h => h.imp id Eq.symm, fun h => h.imp id Eq.symm⟩
/-- Numbers of calls, none there twice. -/
def Fine (cs : List D30) (o : List Int) : Prop := o.Nodup ∧ ∀ y ∈ o, ∃ i : Nat, i < cs.length ∧ y = (i : Int)
theorem bf_irr {cs : List D30} (g : Good cs) {i : Nat} (hi : i < cs.length) : bf cs i i = false := by
  have hm := (g.all _ (mem_at hi)).1
  show (bif A.F45.val (cs.getD i d30) then decide ((cs.getD i d30).2.2.2.2.2.2.1 < (cs.getD i d30).2.2.2.2.2.1) else false) = false
  generalize cs.getD i d30 = c at hm ⊢
  cases hk : A.F45.val c with
  | false => rfl
  | true =>
    rw [cond_true, decide_eq_false_iff_not]
    unfold B.F25.val at hm
    rw [hk] at hm
    by_cases h1 : c.snd.snd.fst.fst < 1
    · rw [decide_eq_true h1, cond_true] at hm; cases hm
    rw [decide_eq_false h1, cond_false] at hm
    by_cases h2 : c.snd.snd.fst.fst > 5
    · rw [decide_eq_true h2, cond_true] at hm; cases hm
    rw [decide_eq_false h2, cond_false] at hm
    by_cases h3 : c.snd.snd.snd.snd.snd.fst < 0
    · rw [decide_eq_true h3, cond_true] at hm; cases hm
    rw [decide_eq_false h3, cond_false, Bool.not_true, cond_false] at hm
    by_cases h4 : c.snd.snd.snd.snd.snd.snd.fst ≤ c.snd.snd.snd.snd.snd.fst
    · rw [decide_eq_true h4, cond_true] at hm; cases hm
    omega
theorem bf_known {cs : List D30} {j i : Nat} (h : bf cs j i = true) : kn cs j = true := by
  have h' : (bif A.F45.val (cs.getD j d30) then decide ((cs.getD j d30).2.2.2.2.2.2.1 < (cs.getD i d30).2.2.2.2.2.1) else false) = true := h
  cases hk : A.F45.val (cs.getD j d30) with
  | false => rw [hk] at h'; cases h'
  | true => exact hk
theorem chain_iff {cs : List D30} (g : Good cs) {o : List Int} (hf : Fine cs o) (hw : ∀ j, j < cs.length → kn cs j = true → (j : Int) ∈ o) : ∀ (r pre : List Int) (S : Nat) (x : D60), pre ++ r = o → SetOf S pre → (Timed cs pre r ∧ PlayAll cs x r → Chain cs S x r)
  | [], pre, S, x, e, hs, _ => .done fun j hj hk => by
      rw [List.append_nil] at e
      subst e
      exact (hs j).2 (hw j hj hk)
  | y :: r, pre, S, x, e, hs, ⟨ht, hp⟩ => by
    have hy : y ∈ o := by rw [← e]; exact List.mem_append_right _ (List.mem_cons_self ..)
    obtain ⟨i, hi, rfl⟩ := hf.2 y hy
    have hnd := hf.1
    rw [← e, List.nodup_append] at hnd
    have hni : (i : Int) ∉ pre := fun h => hnd.2.2 _ h _ (List.mem_cons_self ..) rfl
    have hp1 : (ply cs i x).1 = true := hp.1
    refine .step i r hi ⟨?_, fun j hj hb => ?_⟩ hp1 (chain_iff g hf hw r (pre ++ [(i : Int)]) (S ||| 2 ^ i) (ply cs i x).2 (by rw [List.append_assoc]; exact e) (hs.add i) ⟨ht.2, hp.2⟩)
    · cases h : S.testBit i with
      | false => rfl
      | true => exact absurd ((hs i).1 h) hni
    · have hm := hw j hj (bf_known hb)
      rw [← e] at hm
      rcases List.mem_append.1 hm with hm | hm
      · exact (hs j).2 hm
      · rcases List.mem_cons.1 hm with hm | hm
        · rw [Int.natCast_inj.1 hm, bf_irr g hi] at hb; cases hb
        · have := timed_mem cs r (pre ++ [(i : Int)]) ht.2 (j : Int) hm (i : Int) (List.mem_append_right _ (List.mem_singleton.2 rfl))
          rw [Int.toNat_natCast, Int.toNat_natCast, hb] at this; cases this
/-- What a chain is. -/
theorem chain_is {cs : List D30} {S : Nat} {x : D60} {r : List Int} (h : Chain cs S x r) : ∀ (pre : List Int), SetOf S pre → (∀ b ∈ pre, ∃ i : Nat, i < cs.length ∧ b = (i : Int)) → (∀ b ∈ pre, ∀ j : Nat, j < cs.length → bf cs j b.toNat = true → (j : Int) ∈ pre) →
    Timed cs pre r ∧ PlayAll cs x r ∧ (∀ y ∈ r, ∃ i : Nat, i < cs.length ∧ y = (i : Int)) ∧ (∀ y ∈ r, y ∉ pre) ∧ r.Nodup ∧ (∀ j, j < cs.length → kn cs j = true → (j : Int) ∈ pre ++ r) := by
  induction h with
  | done h =>
    intro pre hs _ hc
    refine ⟨trivial, trivial, fun y hy => (nomatch hy), fun y hy => (nomatch hy), List.nodup_nil, fun j hj hk => ?_⟩
    rw [List.append_nil]; exact (hs j).1 (h j hj hk)
  | @step S x i l h1 h2 h3 h4 ih =>
    intro pre hs hr hc
    have hni : (i : Int) ∉ pre := fun h => by have h2' := h2.1; rw [(hs i).2 h] at h2'; cases h2'
    obtain ⟨a1, a2, a3, a4, a5, a6⟩ := ih (pre ++ [(i : Int)]) (hs.add i) (fun b hb => by
      rcases List.mem_append.1 hb with hb | hb
      · exact hr b hb
      · exact ⟨i, h1, List.mem_singleton.1 hb⟩) (fun b hb j hj h => by
      rcases List.mem_append.1 hb with hb | hb
      · exact List.mem_append_left _ (hc b hb j hj h)
      · rw [List.mem_singleton.1 hb, Int.toNat_natCast] at h
        exact List.mem_append_left _ ((hs j).1 (h2.2 j hj h)))
    refine ⟨⟨fun b hb => ?_, a1⟩, ⟨h3, a2⟩, fun y hy => ?_, fun y hy => ?_, ?_, fun j hj hk => ?_⟩
    · cases hbf : bf cs ((i : Int)).toNat b.toNat with
      | false => rfl
      | true =>
        rw [Int.toNat_natCast] at hbf
        exact absurd (hc b hb i h1 hbf) hni
    · rcases List.mem_cons.1 hy with rfl | hy
      · exact ⟨i, h1, rfl⟩
      · exact a3 y hy
    · rcases List.mem_cons.1 hy with rfl | hy
      · exact hni
      · exact fun h => a4 y hy (List.mem_append_left _ h)
    · rw [List.nodup_cons]
      exact ⟨fun h => a4 _ h (List.mem_append_right _ (List.mem_singleton.2 rfl)), a5⟩
    · have := a6 j hj hk
      rw [List.append_assoc] at this; exact this
/-- All calls are of one key. -/
def OneKey (cs : List D30) : Prop := ∀ c ∈ cs, c.2.2.1.2.1 = (cs.getD 0 d30).2.2.1.2.1
theorem rn_iff {cs : List D30} (g : Good cs) (h1 : OneKey cs) : ∀ (r pre : List Int) (x : D60) (last : Int) (es : List (Int × D60)), XOK cs x → (∀ y ∈ r, ∃ i : Nat, i < cs.length ∧ y = (i : Int)) →
    (∀ e : Int, 0 ≤ e → (e < last ↔ ∃ b ∈ pre, e < (cs.getD b.toNat d30).2.2.2.2.2.1)) → lookA d60 es (cs.getD 0 d30).2.2.1.2.1 = x → (E.F18.rn cs r last es = true ↔ Timed cs pre r ∧ PlayAll cs x r)
  | [], pre, x, last, es, hx, hr, hl, he => ⟨fun _ => ⟨trivial, trivial⟩, fun _ => rfl⟩
  | y :: r, pre, x, last, es, hx, hr, hl, he => by
    obtain ⟨i, hi, rfl⟩ := hr y (List.mem_cons_self ..)
    have hkey : (cs.getD i d30).2.2.1.2.1 = (cs.getD 0 d30).2.2.1.2.1 := h1 _ (mem_at hi)
    obtain ⟨p1, p2⟩ := ply_eq g hi hx
    rw [E.F18.rn, Int.toNat_natCast, hkey, he]
    have ht : (A.F41.val (cs.getD i d30) && decide ((cs.getD i d30).2.2.2.2.2.2.1 < last)) = false ↔ ∀ b ∈ pre, bf cs i b.toNat = false := by
      cases hk : A.F41.val (cs.getD i d30) with
      | false =>
        refine ⟨fun _ b _ => ?_, fun _ => rfl⟩
        show (bif A.F45.val (cs.getD i d30) then _ else false) = false
        rw [show A.F45.val (cs.getD i d30) = false from hk, cond_false]
      | true =>
        have hend := mayBe_end _ (g.all _ (mem_at hi)).1 hk
        rw [Bool.true_and, decide_eq_false_iff_not, hl _ hend]
        have e : ∀ b : Int, bf cs i b.toNat = decide ((cs.getD i d30).2.2.2.2.2.2.1 < (cs.getD b.toNat d30).2.2.2.2.2.1) := fun b => by
          show (bif A.F45.val (cs.getD i d30) then _ else false) = _
          rw [show A.F45.val (cs.getD i d30) = true from hk, cond_true]
        exact ⟨fun h b hb => by rw [e, decide_eq_false_iff_not]; exact fun h' => h ⟨b, hb, h'⟩, fun h ⟨b, hb, h'⟩ => by have := h b hb; rw [e, decide_eq_false_iff_not] at this; exact this h'⟩
    rw [p1]
    cases hA : (A.F41.val (cs.getD i d30) && decide ((cs.getD i d30).2.2.2.2.2.2.1 < last)) with
    | true =>
      rw [cond_true]
      refine ⟨fun h => (nomatch h), fun h => ?_⟩
      have h' : ∀ b ∈ pre, bf cs i b.toNat = false := h.1.1
      rw [ht.2 h'] at hA; cases hA
    | false =>
      rw [cond_false]
      cases hP : (ply cs i x).1 with
      | false =>
        rw [Bool.not_false, cond_true]
        refine ⟨fun h => (nomatch h), fun h => ?_⟩
        have h' : (ply cs i x).1 = true := h.2.1
        rw [hP] at h'; cases h'
      | true =>
        rw [Bool.not_true, cond_false, p2 hP]
        have ih := rn_iff g h1 r (pre ++ [(i : Int)]) (ply cs i x).2 (bif decide ((cs.getD i d30).2.2.2.2.2.1 > last) then (cs.getD i d30).2.2.2.2.2.1 else last) (setA es (cs.getD 0 d30).2.2.1.2.1 (ply cs i x).2) (ply_X hi hx) (fun y hy => hr y (List.mem_cons_of_mem _ hy)) (fun e he => ?_) ?_
        · rw [ih]
          exact ⟨fun h => ⟨⟨ht.1 hA, h.1⟩, hP, h.2⟩, fun h => ⟨h.1.2, h.2.2⟩⟩
        · have ex : (∃ b ∈ pre ++ [(i : Int)], e < (cs.getD b.toNat d30).2.2.2.2.2.1) ↔ (∃ b ∈ pre, e < (cs.getD b.toNat d30).2.2.2.2.2.1) ∨ e < (cs.getD i d30).2.2.2.2.2.1 := by
            constructor
            · rintro ⟨b, hb, h⟩
              rcases List.mem_append.1 hb with hb | hb
              · exact .inl ⟨b, hb, h⟩
              · rw [List.mem_singleton.1 hb, Int.toNat_natCast] at h; exact .inr h
            · rintro (⟨b, hb, h⟩ | h)
              · exact ⟨b, List.mem_append_left _ hb, h⟩
              · exact ⟨(i : Int), List.mem_append_right _ (List.mem_singleton.2 rfl), by rw [Int.toNat_natCast]; exact h⟩
          rw [ex, ← hl e he]
          by_cases hb : (cs.getD i d30).2.2.2.2.2.1 > last
          · rw [decide_eq_true hb, cond_true]; omega
          · rw [decide_eq_false hb, cond_false]; omega
        · rw [lookA_set, beq_self_eq_true, cond_true]
theorem okAt_iff {cs : List D30} (g : Good cs) (y : Int) : D.okAt cs y = true ↔ ∃ i : Nat, i < cs.length ∧ y = (i : Int) := by
  unfold D.okAt
  rw [Bool.and_eq_true, Bool.and_eq_true, decide_eq_true_iff, decide_eq_true_iff]
  constructor
  · rintro ⟨⟨a, b⟩, _⟩
    exact ⟨y.toNat, by omega, by omega⟩
  · rintro ⟨i, hi, rfl⟩
    refine ⟨⟨by omega, by omega⟩, ?_⟩
    rw [Int.toNat_natCast, (g.all _ (mem_at hi)).2]; rfl
theorem lst_iff {cs : List D30} (g : Good cs) : ∀ (r pre : List Int), D.lst cs pre r = true ↔ (∀ y ∈ r, ∃ i : Nat, i < cs.length ∧ y = (i : Int)) ∧ r.Nodup ∧ ∀ y ∈ r, y ∉ pre
  | [], pre => ⟨fun _ => ⟨fun y hy => (nomatch hy), List.nodup_nil, fun y hy => (nomatch hy)⟩, fun _ => rfl⟩
  | y :: r, pre => by
    have hp : (!(pre.any (· == y))) = true ↔ y ∉ pre := by
      rw [Bool.not_eq_true', List.any_eq_false]
      exact ⟨fun h hm => h y hm (beq_self_eq_true y), fun h z hz e => h (by rw [← eq_of_beq e]; exact hz)⟩
    rw [D.lst, Bool.and_eq_true, Bool.and_eq_true, hp, okAt_iff g, lst_iff g r (pre ++ [y]), List.nodup_cons]
    constructor
    · rintro ⟨⟨a, b⟩, c, d, e⟩
      refine ⟨fun z hz => ?_, ⟨fun hm => e y hm (List.mem_append_right _ (List.mem_singleton.2 rfl)), d⟩, fun z hz => ?_⟩
      · rcases List.mem_cons.1 hz with rfl | hz
        · exact a
        · exact c z hz
      · rcases List.mem_cons.1 hz with rfl | hz
        · exact b
        · exact fun h => e z hz (List.mem_append_left _ h)
    · rintro ⟨a, ⟨b, c⟩, d⟩
      refine ⟨⟨a y (List.mem_cons_self ..), d y (List.mem_cons_self ..)⟩, fun z hz => a z (List.mem_cons_of_mem _ hz), c, fun z hz h => ?_⟩
      rcases List.mem_append.1 h with h | h
      · exact d z (List.mem_cons_of_mem _ hz) h
      · rw [List.mem_singleton.1 h] at hz; exact b hz
theorem whole_iff {cs : List D30} (g : Good cs) (o : List Int) : (List.range' 0 cs.length).all (D.F36.inOr cs o) = true ↔ ∀ j, j < cs.length → kn cs j = true → (j : Int) ∈ o := by
  rw [KP5.all_range]
  refine forall_congr' fun j => forall_congr' fun hj => ?_
  have ho : o.any (· == (j : Int)) = true ↔ (j : Int) ∈ o := by
    rw [List.any_eq_true]
    exact ⟨fun ⟨x, hx, e⟩ => by rw [← eq_of_beq e]; exact hx, fun h => ⟨_, h, beq_self_eq_true _⟩⟩
  rw [D.F36.inOr, (g.all _ (mem_at hj)).2]
  show (!(kn cs j && !false) || o.any (· == (j : Int))) = true ↔ _
  rw [Bool.not_false, Bool.and_true, Bool.or_eq_true, ho]
  cases kn cs j with
  | false => exact ⟨fun _ h => (nomatch h), fun _ => .inl rfl⟩
  | true => exact ⟨fun h _ => h.resolve_left (by decide), fun h => .inr (h rfl)⟩
/-- An order obeys just when it is a chain. -/
theorem obeys_iff {cs : List D30} (g : Good cs) (h1 : OneKey cs) (o : List Int) : E.F18.val cs o = true ↔ Chain cs 0 d60 o := by
  have s0 : SetOf 0 [] := fun j => by rw [Nat.zero_testBit]; exact ⟨fun h => (nomatch h), fun h => (nomatch h)⟩
  have hall : C.F31.val cs = true := by
    rw [allMayBe_eq, List.all_eq_true]
    exact fun c hc => (g.all c hc).1
  unfold E.F18.val
  rw [hall, Bool.true_and, Bool.and_eq_true, Bool.and_eq_true, lst_iff g, whole_iff g]
  have hrn : (∀ y ∈ o, ∃ i : Nat, i < cs.length ∧ y = (i : Int)) → (E.F18.rn cs o (-1) [] = true ↔ Timed cs [] o ∧ PlayAll cs d60 o) := fun hr =>
    rn_iff g h1 o [] d60 (-1) [] (.inl rfl) hr (fun e he => ⟨fun h => by omega, fun ⟨b, hb, _⟩ => (nomatch hb)⟩) rfl
  constructor
  · rintro ⟨⟨a, b, c⟩, d, e⟩
    exact chain_iff g ⟨b, a⟩ d o [] 0 d60 rfl s0 ((hrn a).1 e)
  · intro h
    obtain ⟨a1, a2, a3, a4, a5, a6⟩ := chain_is h [] s0 (fun b hb => (nomatch hb)) (fun b hb => (nomatch hb))
    exact ⟨⟨a3, a5, fun y hy => a4 y hy⟩, fun j hj hk => a6 j hj hk, (hrn a3).2 ⟨a1, a2⟩⟩
end Go.Proofs.Ytdjdbjcapenjeaa.KR1
