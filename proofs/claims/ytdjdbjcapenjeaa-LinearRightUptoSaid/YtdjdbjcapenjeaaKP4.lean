/- The program's search finds the least order, if there is one. -/
import Derived.Test.YtdjdbjcapenjeaaKP3
set_option linter.unusedVariables false
namespace Go.Proofs.Ytdjdbjcapenjeaa.KP4
open Go Go.Proofs.Ytdjdbjcapenjeaa.Dx Go.Proofs.Ytdjdbjcapenjeaa.Dx.TYtdjdbjcapenjeaa
open KP1 KP2 KP3 PObeys KB KC.F43 KA.F62
/-- What a search leaves. -/
def Post (cs : List D30) (S : Nat) (x : D60) (s : SS) (r : Bool × SS) : Prop :=
  (r.1 = true → ∃ o, Ord cs S x o ∧ r.2.2.2.1 = s.2.2.1 + o.length ∧ r.2.2.2.1 ≤ r.2.2.2.2.length ∧ r.2.2.2.2.take r.2.2.2.1 = s.2.2.2.take s.2.2.1 ++ o) ∧
  (r.1 = false → ¬ KP2.Can cs S x ∧ Inv cs r.2.1 r.2.2.1 ∧ s.1 <+: r.2.1 ∧ r.2.2.2.1 = s.2.2.1 ∧ r.2.2.2.1 ≤ r.2.2.2.2.length ∧ r.2.2.2.2.take r.2.2.2.1 = s.2.2.2.take s.2.2.1)
theorem Post.mono {cs : List D30} {S : Nat} {x : D60} {s s' : SS} {r : Bool × SS} (h : Post cs S x s' r) (hp : s.1 <+: s'.1) (hn : s'.2.2.1 = s.2.2.1) (ht : s'.2.2.2.take s'.2.2.1 = s.2.2.2.take s.2.2.1) : Post cs S x s r := by
  refine ⟨fun e => ?_, fun e => ?_⟩
  · obtain ⟨o, o1, o2, o3, o4⟩ := h.1 e
    exact ⟨o, o1, by rw [o2, hn], o3, by rw [o4, ht]⟩
  · obtain ⟨p1, p2, p3, p4, p5, p6⟩ := h.2 e
    exact ⟨p1, p2, hp.trans p3, by rw [p4, hn], p5, by rw [p6, ht]⟩
/-- A state that a search may begin with. -/
structure St0 (cs : List D30) (S : Nat) (s : SS) : Prop where
  inv : Inv cs s.1 s.2.1
  len : s.2.2.1 ≤ s.2.2.2.length
  few : s.2.2.1 + mu S cs.length ≤ 16
theorem lp_ok {cs : List D30} (g : Good cs) {S : Nat} {x : D60} (hS : S < 2 ^ cs.length) (hx : XOK cs x) (hnc : ¬ cpl cs S) (r : Int → D60 → SS → Bool × SS) (q : Int → D60 → SS → Prop)
    (IH : ∀ (S' : Nat) (x' : D60) (s' : SS), S' < 2 ^ cs.length → XOK cs x' → mu S' cs.length < mu S cs.length → St0 cs S' s' → q (S' : Int) x' s' ∧ Post cs S' x' s' (r (S' : Int) x' s')) :
    ∀ (m j : Nat), j + m = cs.length → (∀ k, k < j → ¬ cand cs S x k) → ∀ s : SS, St0 cs S s → okl r q cs (ahsA cs) (S : Int) x (List.range' j m) s ∧ Post cs S x s (lp r cs (ahsA cs) (S : Int) x (List.range' j m) s)
  | 0, j, hj, hno, s, hs => by
    refine ⟨trivial, fun e => (nomatch e), fun _ => ⟨fun hc => ?_, hs.inv, List.prefix_rfl, rfl, hs.len, rfl⟩⟩
    rcases (can_iff cs S x).1 hc with h | ⟨i, hi⟩
    · exact hnc h
    · exact hno i (by have := hi.1; omega) hi
  | m + 1, j, hj, hno, s, hs => by
    have hjn : j < cs.length := by omega
    have h16 := g.n16
    have hS16 := lt16 h16 hS
    have hj16 : j < 16 := by omega
    have go : ¬ cand cs S x j → ∀ k, k < j + 1 → ¬ cand cs S x k := fun h k hk => by
      rcases Nat.lt_or_ge k j with h1 | h1
      · exact hno k h1
      · have : k = j := by omega
        rw [this]; exact h
    rw [List.range'_succ, okl, lp]
    obtain ⟨pe1, pe2⟩ := ply_eq g hjn hx
    cases hsk : skipB (ahsA cs) (S : Int) (j : Int) with
    | true =>
      rw [cond_true, cond_true]
      refine lp_ok g hS hx hnc r q IH m (j + 1) (by omega) (go fun hc => ?_) s hs
      rw [(skip_ok cs h16 S j hS16 hjn).2 hc.2.1] at hsk; cases hsk
    | false =>
      rw [cond_false, cond_false]
      have hfr := (skip_ok cs h16 S j hS16 hjn).1 hsk
      cases hpl : (B.F29.val (cs.getD j d30) x).2 with
      | false =>
        rw [Bool.not_false, cond_true, cond_true]
        refine lp_ok g hS hx hnc r q IH m (j + 1) (by omega) (go fun hc => ?_) s hs
        rw [hpl, hc.2.2.1] at pe1; cases pe1
      | true =>
        rw [Bool.not_true, cond_false, cond_false]
        have hp1 : (ply cs j x).1 = true := by rw [← pe1, hpl]
        rw [pe2 hp1, one_nat j (by omega), u32or_nat S _ (by omega) (pow_lt j (by omega))]
        have hmu := mu_pos S j cs.length hfr.1 hjn
        have hs1 : St0 cs (S ||| 2 ^ j) (addO s (j : Int)) := by
          refine ⟨hs.inv, ?_, ?_⟩
          · show s.2.2.1 + 1 ≤ (s.2.2.2.take s.2.2.1 ++ [(j : Int)]).length
            rw [List.length_append, List.length_take, List.length_singleton]
            have := hs.len; omega
          · have := hs.few
            show s.2.2.1 + 1 + mu (S ||| 2 ^ j) cs.length ≤ 16
            omega
        obtain ⟨iq, ip⟩ := IH (S ||| 2 ^ j) (ply cs j x).2 (addO s (j : Int)) (or_lt hS hjn) (ply_X hjn hx) (by omega) hs1
        generalize hR : r ((S ||| 2 ^ j : Nat) : Int) (ply cs j x).2 (addO s (j : Int)) = R at iq ip ⊢
        have hLB : LB = 1073741824 := rfl
        have hlim : s.2.2.1 ≤ s.2.2.2.length ∧ s.2.2.1 + 1 ≤ LB := ⟨hs.len, by have := hs.few; omega⟩
        have htk : (addO s (j : Int)).2.2.2.take (addO s (j : Int)).2.2.1 = s.2.2.2.take s.2.2.1 ++ [(j : Int)] := by
          show (s.2.2.2.take s.2.2.1 ++ [(j : Int)]).take (s.2.2.1 + 1) = _
          refine List.take_of_length_le ?_
          rw [List.length_append, List.length_take, List.length_singleton]; omega
        cases hr1 : R.1 with
        | true =>
          rw [cond_true, cond_true]
          obtain ⟨o, o1, o2, o3, o4⟩ := ip.1 hr1
          refine ⟨⟨hlim, iq, trivial⟩, fun _ => ⟨(j : Int) :: o, .step j o hnc ⟨hjn, hfr, hp1, o1.can⟩ hno o1, ?_, o3, ?_⟩, fun e => (nomatch e)⟩
          · show R.2.2.2.1 = s.2.2.1 + (o.length + 1)
            have o2' : R.2.2.2.1 = s.2.2.1 + 1 + o.length := o2
            omega
          · show R.2.2.2.2.take R.2.2.2.1 = _
            rw [o4, htk, List.append_assoc, List.singleton_append]
        | false =>
          rw [cond_false, cond_false]
          obtain ⟨p1, p2, p3, p4, p5, p6⟩ := ip.2 hr1
          have p4' : R.2.2.2.1 = s.2.2.1 + 1 := p4
          have hfl : R.2.2.1.length = s.2.1.length := p2.len.trans hs.inv.len.symm
          have htk2 : (cutO R.2).2.2.2.take (cutO R.2).2.2.1 = s.2.2.2.take s.2.2.1 := by
            show R.2.2.2.2.take (R.2.2.2.1 - 1) = _
            have e1 : R.2.2.2.2.take (R.2.2.2.1 - 1) = (R.2.2.2.2.take R.2.2.2.1).take (R.2.2.2.1 - 1) := by
              rw [List.take_take]; congr 1; omega
            rw [e1, p6, htk, show R.2.2.2.1 - 1 = s.2.2.1 by omega, List.take_append_of_le_length (by rw [List.length_take]; have := hs.len; omega), List.take_take]
            congr 1; omega
          have hs2 : St0 cs S (cutO R.2) := ⟨p2, by show R.2.2.2.1 - 1 ≤ R.2.2.2.2.length; omega, by show R.2.2.2.1 - 1 + mu S cs.length ≤ 16; have := hs.few; omega⟩
          obtain ⟨k1, k2⟩ := lp_ok g hS hx hnc r q IH m (j + 1) (by omega) (go fun hc => p1 hc.2.2.2) (cutO R.2) hs2
          refine ⟨⟨hlim, iq, ⟨by omega, by have := hs.few; omega, hfl⟩, k1⟩, k2.mono p3 (by show R.2.2.2.1 - 1 = _; omega) htk2⟩
theorem comp_ok {cs : List D30} (g : Good cs) : ∀ (f S : Nat) (x : D60) (s : SS), S < 2 ^ cs.length → XOK cs x → mu S cs.length < f → St0 cs S s → okC f cs (mustA cs) (ahsA cs) (S : Int) x s ∧ Post cs S x s (comp f cs (mustA cs) (ahsA cs) (S : Int) x s)
  | 0, S, x, s, hS, hx, hm, hs => absurd hm (Nat.not_lt_zero _)
  | f + 1, S, x, s, hS, hx, hm, hs => by
    have h16 := g.n16
    have hS16 := lt16 h16 hS
    have hLB : LB = 1073741824 := rfl
    rw [comp, okC]
    cases hc : (u32and (S : Int) (mustA cs) == mustA cs) with
    | true =>
      rw [cond_true, cond_true]
      have hcp := (cpl_ok cs h16 S hS16).1 hc
      exact ⟨trivial, fun _ => ⟨[], .done hcp, rfl, hs.len, (List.append_nil _).symm⟩, fun e => (nomatch e)⟩
    | false =>
      rw [cond_false, cond_false]
      have hnc : ¬ cpl cs S := fun h => by rw [(cpl_ok cs h16 S hS16).2 h] at hc; cases hc
      obtain ⟨v, v1, v2, v3, v4, v5⟩ := num_ok g hs.inv hx
      obtain ⟨F, f1, f2, f3⟩ := hs.inv.memo S hS
      have hsm := v5.small
      have hv32 : v < 32 := by omega
      have hlim : s.1.length ≤ LB ∧ (0 : Int) ≤ (S : Int) ∧ (S : Int) < (s.2.1.length : Int) ∧ cs.length ≤ LB ∧ (ahsA cs).length = cs.length := by
        have := hs.inv.small
        have hl := hs.inv.len
        exact ⟨by omega, by omega, by rw [hl]; exact Int.ofNat_lt.2 hS, by omega, ahs_len cs⟩
      rw [v1, Int.toNat_natCast, f1, has_bit F v f2 hv32]
      cases hb : F.testBit v with
      | true =>
        rw [cond_true, cond_true]
        obtain ⟨w1, w2⟩ := f3 v hb
        rw [← cellV_pre v4 w1, v3] at w2
        exact ⟨⟨hlim, trivial⟩, fun e => (nomatch e), fun _ => ⟨w2, v5, v4, rfl, hs.len, rfl⟩⟩
      | false =>
        rw [cond_false, cond_false]
        have hs1 : St0 cs S (numL s.1 x, s.2) := ⟨v5, hs.len, hs.few⟩
        obtain ⟨l1, l2⟩ := lp_ok g hS hx hnc (comp f cs (mustA cs) (ahsA cs)) (okC f cs (mustA cs) (ahsA cs)) (fun S' x' s' a b c d => comp_ok g f S' x' s' a b (by omega) d) cs.length 0 (by omega) (fun k hk => absurd hk (Nat.not_lt_zero _)) (numL s.1 x, s.2) hs1
        generalize hR : lp (comp f cs (mustA cs) (ahsA cs)) cs (ahsA cs) (S : Int) x (List.range' 0 cs.length) (numL s.1 x, s.2) = R at l1 l2 ⊢
        cases hr1 : R.1 with
        | true =>
          rw [cond_true, cond_true]
          refine ⟨⟨hlim, l1, trivial⟩, fun _ => ?_, fun e => (nomatch e)⟩
          exact l2.1 hr1
        | false =>
          rw [cond_false, cond_false]
          obtain ⟨p1, p2, p3, p4, p5, p6⟩ := l2.2 hr1
          have hfl : R.2.2.1.length = s.2.1.length := p2.len.trans hs.inv.len.symm
          refine ⟨⟨hlim, l1, hfl⟩, fun e => (nomatch e), fun _ => ⟨p1, ?_, v4.trans p3, p4, p5, p6⟩⟩
          refine p2.fail h16 hS (Nat.le_trans v2 p3.length_le) ?_
          rw [cellV_pre p3 v2, v3]
          exact p1
end Go.Proofs.Ytdjdbjcapenjeaa.KP4
