/- A key's verdict: the program's is the document's. -/
import Derived.Test.YtdjdbjcapenjeaaKP4
import Derived.Test.YtdjdbjcapenjeaaKP5
set_option linter.unusedVariables false
namespace Go.Proofs.Ytdjdbjcapenjeaa.KP6
open Go Go.Proofs.Ytdjdbjcapenjeaa.Dx Go.Proofs.Ytdjdbjcapenjeaa.Dx.TYtdjdbjcapenjeaa
open KP1 KP2 KP3 KP4 KP5 PObeys KB KE KF KG KC.F43
theorem mu_zero (S : Nat) : ∀ k, mu S k = 0 → ∀ j, j < k → S.testBit j = true
  | 0, _, j, hj => absurd hj (Nat.not_lt_zero _)
  | k + 1, h, j, hj => by
    rw [mu] at h
    cases hb : S.testBit k with
    | false => rw [hb, cond_false] at h; omega
    | true =>
      rcases Nat.lt_or_ge j k with h1 | h1
      · exact mu_zero S k (by omega) j h1
      · rw [show j = k by omega]; exact hb
theorem pk_ok {cs : List D30} (g : Good cs) {S s : Nat} (hS : S < 2 ^ cs.length) (hs : s ≤ cs.length) (hnc : ¬ cpl cs S) (hc : KP2.Can cs S (cellS cs s)) (od : List Int) :
    ∀ (m j : Nat), j + m = cs.length → (∀ k, k < j → ¬ cand cs S (cellS cs s) k) → ∀ tb : List Int, InvD cs (cs.length + 1) tb →
      okpk cs (S : Int) (s : Int) (List.range' j m) tb od ∧ ∃ i s' : Nat, cand cs S (cellS cs s) i ∧ (∀ k, k < i → ¬ cand cs S (cellS cs s) k) ∧ s' ≤ cs.length ∧ cellS cs s' = (ply cs i (cellS cs s)).2 ∧
        ∃ t : List Int, InvD cs (cs.length + 1) t ∧ pk cs (S : Int) (s : Int) (List.range' j m) tb od = (((S ||| 2 ^ i : Nat) : Int), (s' : Int), t, od ++ [(i : Int)])
  | 0, j, hj, hno, tb, ht => by
    rcases (can_iff cs S _).1 hc with h | ⟨i, hi⟩
    · exact absurd h hnc
    · exact absurd hi (hno i (by have := hi.1; omega))
  | m + 1, j, hj, hno, tb, ht => by
    have hjn : j < cs.length := by omega
    have h16 := g.n16
    have hS16 := lt16 h16 hS
    rw [List.range'_succ, okpk, pk]
    have go : ¬ cand cs S (cellS cs s) j → ∀ k, k < j + 1 → ¬ cand cs S (cellS cs s) k := fun h k hk => by
      rcases Nat.lt_or_ge k j with h1 | h1
      · exact hno k h1
      · rw [show k = j by omega]; exact h
    have hnp := nxt_pre (S := S) g hs hjn
    obtain ⟨n1, n2⟩ := nxt_ok g hS16 hs hjn
    cases hx : (nxV cs (S : Int) (s : Int) (j : Int)).1 with
    | false =>
      rw [cond_false, cond_false]
      obtain ⟨a, b⟩ := pk_ok g hS hs hnc hc od m (j + 1) (by omega) (go fun h => by rw [n1.2 ⟨h.2.1, h.2.2.1⟩] at hx; cases hx) tb ht
      exact ⟨⟨hnp, a⟩, b⟩
    | true =>
      rw [cond_true, cond_true]
      obtain ⟨hfr, hp1⟩ := n1.1 hx
      obtain ⟨s', e1, e2, e3⟩ := n2 hx
      rw [e1, addS_nat S j hS16 (by omega) hfr.1]
      have hml := mu_le (S ||| 2 ^ j) cs.length
      obtain ⟨iq, ip⟩ := fnd_ok g 40 (S ||| 2 ^ j) s' tb (or_lt hS hjn) e2 (by omega) (ht.less (by omega))
      have hi := ip.inv ht (by omega)
      have hlen : (fnd 40 cs ((S ||| 2 ^ j : Nat) : Int) (s' : Int) tb).2.length = tb.length := hi.len.trans ht.len.symm
      generalize fnd 40 cs ((S ||| 2 ^ j : Nat) : Int) (s' : Int) tb = R at ip hi hlen ⊢
      have p1 := ip.1
      rw [e3] at p1
      cases hr : R.1 with
      | true =>
        rw [cond_true, cond_true]
        exact ⟨⟨hnp, iq, hlen, trivial⟩, j, s', ⟨hjn, hfr, hp1, p1.1 hr⟩, hno, e2, e3, R.2, hi, rfl⟩
      | false =>
        rw [cond_false, cond_false]
        obtain ⟨a, b⟩ := pk_ok g hS hs hnc hc od m (j + 1) (by omega) (go fun h => by rw [p1.2 h.2.2.2] at hr; cases hr) R.2 hi
        exact ⟨⟨hnp, iq, hlen, a⟩, b⟩
theorem rd_ok {cs : List D30} (g : Good cs) : ∀ (f S s : Nat) (tb od : List Int), S < 2 ^ cs.length → s ≤ cs.length → mu S cs.length ≤ f → KP2.Can cs S (cellS cs s) → InvD cs (cs.length + 1) tb →
    okrd cs f ((S : Int), (s : Int), tb, od) ∧ ∃ o, Ord cs S (cellS cs s) o ∧ (rd cs f ((S : Int), (s : Int), tb, od)).2.2.2 = od ++ o
  | 0, S, s, tb, od, hS, hs, hm, hc, ht => by
    have hcp : cpl cs S := fun j hj _ => mu_zero S cs.length (by omega) j hj
    exact ⟨(complete_ok cs [] g.n16 S (lt16 g.n16 hS)).2 hcp, [], .done hcp, (List.append_nil _).symm⟩
  | f + 1, S, s, tb, od, hS, hs, hm, hc, ht => by
    rw [okrd, rd]
    dsimp only
    cases hcc : F57.val (cs, [], ()) (S : Int) with
    | true =>
      have hcp := (complete_ok cs [] g.n16 S (lt16 g.n16 hS)).1 hcc
      exact ⟨trivial, [], .done hcp, (List.append_nil _).symm⟩
    | false =>
      have hnc : ¬ cpl cs S := fun h => by rw [(complete_ok cs [] g.n16 S (lt16 g.n16 hS)).2 h] at hcc; cases hcc
      rw [cond_false, cond_false]
      obtain ⟨a, i, s', c1, c2, c3, c4, t, c5, c6⟩ := pk_ok g hS hs hnc hc od cs.length 0 (by omega) (fun k hk => absurd hk (Nat.not_lt_zero _)) tb ht
      have hmu := mu_pos S i cs.length c1.2.1.1 c1.1
      have hcan := c1.2.2.2
      rw [← c4] at hcan
      obtain ⟨b1, o, b2, b3⟩ := rd_ok g f (S ||| 2 ^ i) s' t (od ++ [(i : Int)]) (or_lt hS c1.1) c3 (by omega) hcan c5
      have e : pkA cs ((S : Int), (s : Int), tb, od) = (((S ||| 2 ^ i : Nat) : Int), (s' : Int), t, od ++ [(i : Int)]) := c6
      rw [e]
      refine ⟨⟨a, by rw [List.length_append, List.length_singleton], c5.len.trans ht.len.symm, b1⟩, (i : Int) :: o, .step i o hnc c1 c2 (by rw [← c4]; exact b2), ?_⟩
      rw [b3, List.append_assoc, List.singleton_append]
theorem inv0 (cs : List D30) : Inv cs [] (fl0 cs) := by
  refine ⟨fun v hv => (nomatch hv), List.nodup_nil, List.length_replicate, fun S hS => ⟨0, ?_, by decide, fun v hv => ?_⟩⟩
  · rw [fl0, List.getD_eq_getElem?_getD, List.getElem?_replicate, if_pos hS]; rfl
  · rw [Nat.zero_testBit] at hv; cases hv
theorem invD0 (cs : List D30) : InvD cs (cs.length + 1) (F44.tb0 cs) := by
  refine ⟨List.length_replicate, fun S hS _ s hs => .inl ?_⟩
  rw [F44.tb0, List.getD_eq_getElem?_getD, List.getElem?_replicate, if_pos (pos_lt cs hS hs)]; rfl
/-- The two searches for one key's order. -/
theorem order_eq {cs : List D30} (g : Good cs) : KC.F43.Pre cs ∧ KG.F44.Pre cs ∧ KC.F43.val cs = KG.F44.val cs ∧ ((KC.F43.val cs).2 = false → 0 < cs.length) ∧ (KC.F43.val cs).1.length ≤ 16 := by
  have h16 := g.n16
  have hml := mu_le 0 cs.length
  have h0 : 0 < 2 ^ cs.length := Nat.two_pow_pos _
  obtain ⟨a1, a2⟩ := comp_ok g 40 0 d60 ([], fl0 cs, 0, []) h0 (.inl rfl) (by omega) ⟨inv0 cs, Nat.le_refl _, by show 0 + mu 0 cs.length ≤ 16; omega⟩
  have b0 := invD0 cs
  obtain ⟨b1, b2⟩ := fnd_ok g 40 0 0 (F44.tb0 cs) h0 (Nat.zero_le _) (by omega) (b0.less (by omega))
  have b3 := b2.inv b0 (by omega)
  have b4 : (fnd 40 cs 0 0 (F44.tb0 cs)).1 = true ↔ KP2.Can cs 0 d60 := b2.1
  have b5 : InvD cs (cs.length + 1) (fnd 40 cs 0 0 (F44.tb0 cs)).2 := b3
  have a3 : Post cs 0 d60 ([], fl0 cs, 0, []) (jd cs) := a2
  have hle : (jd cs).2.2.2.1 ≤ (jd cs).2.2.2.2.length := by
    cases h : (jd cs).1 with
    | true => obtain ⟨o, _, _, h3, _⟩ := a3.1 h; exact h3
    | false => exact (a3.2 h).2.2.2.2.1
  have hrd : KP2.Can cs 0 d60 → okrd cs 40 (0, 0, (fnd 40 cs 0 0 (F44.tb0 cs)).2, []) ∧ ∃ o, Ord cs 0 d60 o ∧ (rd cs 40 (0, 0, (fnd 40 cs 0 0 (F44.tb0 cs)).2, [])).2.2.2 = [] ++ o := fun hc =>
    rd_ok g 40 0 0 (fnd 40 cs 0 0 (F44.tb0 cs)).2 [] h0 (Nat.zero_le _) (by omega) hc b5
  refine ⟨⟨h16, a1, hle⟩, ⟨h16, b1, fun h => ⟨b5.len.trans b0.len.symm, (hrd (b4.1 h)).1⟩⟩, ?_⟩
  unfold KC.F43.val KG.F44.val
  cases h : (jd cs).1 with
  | true =>
    obtain ⟨o, o1, o2, o3, o4⟩ := a3.1 h
    have hc := o1.can
    obtain ⟨_, o', r1, r2⟩ := hrd hc
    rw [b4.2 hc, Bool.not_true, cond_false, cond_false, r2, o4, o1.unique r1]
    refine ⟨rfl, fun e => (nomatch e), ?_⟩
    have := r1.len
    show (List.take 0 [] ++ o').length ≤ 16
    rw [List.take_zero, List.nil_append]; omega
  | false =>
    have hnc := (a3.2 h).1
    have e : (fnd 40 cs 0 0 (F44.tb0 cs)).1 = false := by
      cases h2 : (fnd 40 cs 0 0 (F44.tb0 cs)).1 with
      | false => rfl
      | true => exact absurd (b4.1 h2) hnc
    rw [e, Bool.not_false, cond_true, cond_true]
    refine ⟨rfl, fun _ => ?_, Nat.zero_le _⟩
    rcases Nat.eq_zero_or_pos cs.length with h2 | h2
    · exact absurd (.done fun j hj => absurd hj (by omega)) hnc
    · exact h2
theorem ok_eq (cs : List D30) (c : D30) : KD.F20.okK cs c = KH.F21.okD cs c := by
  unfold KD.F20.okK KH.F21.okD
  rw [mayBe_eq]; rfl
theorem good {cs : List D30} (hn : cs.length ≤ 16) (ha : cs.all (KH.F21.okD cs) = true) (hl : ∀ c ∈ cs, C.F9.LC c) (hb : ∀ c ∈ cs, CB c) : Good cs := by
  refine ⟨hn, fun c hc => ?_, hb, hl⟩
  have h := List.all_eq_true.1 ha c hc
  unfold KH.F21.okD at h
  rw [Bool.and_eq_true, Bool.and_eq_true] at h
  exact ⟨h.1.1, by simpa using h.1.2⟩
/-- The two verdicts about one key. -/
theorem key_eq (cs : List D30) (hl : cs.length ≤ LB) (h1 : ∀ c ∈ cs, C.F9.LC c) (h2 : ∀ c ∈ cs, CB c) : KD.F20.Pre cs ∧ KH.F21.Pre cs ∧ KD.F20.val cs = KH.F21.val cs ∧ (KD.F20.val cs).1.2.2.1.length ≤ LB := by
  have ef : cs.all (KD.F20.okK cs) = cs.all (KH.F21.okD cs) := by rw [show KD.F20.okK cs = KH.F21.okD cs from funext (ok_eq cs)]
  have hLB : LB = 1073741824 := rfl
  by_cases h16 : cs.length ≤ 16
  · cases ha : cs.all (KH.F21.okD cs) with
    | false =>
      refine ⟨⟨hl, fun h => by rw [ef, ha] at h; cases h.2⟩, ⟨hl, fun h => by rw [ha] at h; cases h.2⟩, ?_⟩
      unfold KD.F20.val KH.F21.val
      rw [ef, ha, decide_eq_false (by omega)]
      exact ⟨rfl, Nat.zero_le _⟩
    | true =>
      obtain ⟨o1, o2, o3, o4, o5⟩ := order_eq (good h16 ha h1 h2)
      refine ⟨⟨hl, fun _ => ⟨o1, o4⟩⟩, ⟨hl, fun _ => ⟨o2, fun h => o4 (by rw [o3]; exact h)⟩⟩, ?_⟩
      unfold KD.F20.val KH.F21.val
      rw [ef, ha, decide_eq_false (by omega), ← o3]
      refine ⟨rfl, ?_⟩
      rw [cond_false, Bool.not_true, cond_false]
      cases (KC.F43.val cs).2 with
      | false => exact Nat.zero_le _
      | true => show (KC.F43.val cs).1.length ≤ LB; omega
  · refine ⟨⟨hl, fun h => absurd h.1 h16⟩, ⟨hl, fun h => absurd h.1 h16⟩, ?_⟩
    unfold KD.F20.val KH.F21.val
    rw [decide_eq_true (by omega)]
    exact ⟨rfl, Nat.zero_le _⟩
end Go.Proofs.Ytdjdbjcapenjeaa.KP6
